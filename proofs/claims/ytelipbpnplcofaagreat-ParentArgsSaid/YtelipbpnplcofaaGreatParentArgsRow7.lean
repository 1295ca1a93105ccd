/-
  PROVED HERE: a part of the run of the evaluator through the closed row, whoever calls it.
  Conditions: none.
-/
import Derived.KernelRfl
import Derived.Test.YtelipbpnplcofaaGreatParentArgsRow6
namespace Go.Proofs.YtelipbpnplcofaaGreat.parentArgs
open Go.Lev
/-- at the end of part 7 of the closed row -/
noncomputable def k7 (c : Fr) : St :=
  ⟨⟨140, 28, [], .normal, none,
  [⟨76, 11, [], .normal, none, .run, (.node (.ptr 1050 0) (.node undefV (.node (.ptr 1050 0) (lU (.ptr 1050 0) 20) (fU 21)) (.node (.bool false) (lU
  (.sl 2337 0 0 640 (.u 2337 0)) 20) (fU 21))) (.node .nilsl (.node (.bool true) (lU (.ptr 1050 0) 20) (fU 21)) (lU (.ptr 1050 0) 21))), [.reg (opsAt Tryz.f76 [1, 1, 0]) ((opsAt
  Tryz.f76 [1, 1, 0]).toList.drop 4), .code (codeAt Tryz.f76 [1, 0, 1, 0, 1])]⟩,
    ⟨39, 6, [], .normal, none, .run, (.node (.ptr 1050 0) (.node undefV (lU (.ptr 1050 0) 21) (fU
  22)) (lU (.ptr 2914 0) 22)), [.reg (opsAt Tryz.f39 [1, 0]) ((opsAt Tryz.f39 [1, 0]).toList.drop 1), .code (codeAt Tryz.f39 [1, 1])]⟩,
    ⟨11, 59, [], .normal, none, .run, (.node
  (.bool false) (.node (.ptr 2575 0) (.node (.ptr 2579 0) (.node undefV (.node (.ptr 2575 0) (lU (.ptr 1050 0) 18) (fU 19)) (lU (nI 110) 19)) (.node (.agg [(nI 4), (.sl 1000 0 0 4
  (.k 4)), (nI 2), (nI 9), (nI 0), (nI 0)]) (lU (.ptr 2579 0) 19) (lU (.bool true) 19))) (.node (.bool true) (.node (.sl 1000 0 0 4 (.k 4)) (lU (.ptr 2575 0) 19) (lU (.ptr 2579 0)
  19)) (.node (.ptr 2575 0) (lU (.bool true) 19) (lU (.bool true) 19)))) (.node (.ptr 2576 0) (.node (nI 110) (.node (.tup [(.ptr 2575 0), (.agg [(nI 1), (nU 3), (nU 2304)])]) (lU
  (.bool false) 19) (lU (.tup [(.bool true), (nI 0)]) 19)) (.node (.tup [(.ptr 2575 0), (.agg [(nI 1), (nU 3), (nU 2304)])]) (lU (nI 110) 19) (lU (nI 0) 19))) (.node (nI 0) (.node
  (.agg [(nI 4), (.sl 1000 0 0 4 (.k 4)), (nI 2), (nI 9)]) (lU (.agg [(nI 1), (nU 3), (nU 2304)]) 19) (lU (.tup [(.bool true), (nI 0)]) 19)) (.node (.agg [(nI 1), (nU 3), (nU 2304)])
  (lU (nI 109) 19) (lU (.ptr 2575 0) 19))))), [.reg (opsAt Tryz.f11 [1, 1, 1, 1, 0, 1, 0, 0, 1, 0, 0, 1, 1, 0, 0]) ((opsAt Tryz.f11 [1, 1, 1, 1, 0, 1, 0, 0, 1, 0, 0, 1, 1, 0,
  0]).toList.drop 2), .code (codeAt Tryz.f11 [1, 1, 1, 1, 0, 1, 0, 0, 1, 0, 0, 1, 1, 0, 1]), .blk 1, .code (codeAt Tryz.f11 [1, 1, 1, 1, 0, 1, 0, 0, 1, 1]), .lp (codeAt Tryz.f11 [1,
  1, 1, 1, 0, 1, 0, 0]), .blk 0, .code (codeAt Tryz.f11 [1, 1, 1, 1, 1])]⟩,
    c]⟩,
  .run,
  (.node (.sl 2337 0 0 640 (.u 2337 0)) (.node undefV (.node (.sl 2915 0 0 1240 (.k
  5120)) (.node (nI 640) (lU (nU 0) 19) (lU (nU 0) 19)) (.node (nI 640) (lU (nU 0) 19) (fU 20))) (.node (nU 0) (.node (.sl 2915 0 0 0 (.k 5120)) (lU (.bool false) 19) (lU (nI 8) 19))
  (.node (.bool true) (lU (.sl 4155 0 0 1 (.k 1)) 19) (fU 20)))) (.node .nilsl (.node undefV (.node (nI 5120) (lU (nI 8) 19) (lU (nU 0) 19)) (.node (nI 154) (lU (nB 0) 19) (fU 20)))
  (.node (.sl 2337 0 0 640 (.u 2337 0)) (.node (.sl 2337 0 0 640 (.u 2337 0)) (lU (.sl 2915 0 0 1239 (.k 5120)) 19) (lU (nI 154) 19)) (.node (.ptr 2337 154) (lU (.sl 2915 0 0 1240
  (.k 5120)) 19) (fU 20))))),
  ⟨(.node .dead (.node .dead (.node .dead (.node .dead (.node .dead (.node .dead (fD 18) (.node .dead (.node .dead (.node .dead (fD 15) (.node .dead
  (.node .dead (lD (.cells 25 1 640 (.node (nU 5929342154728227142) (.node (nU 5120) (.node (nU 18446744073709546495) (.node (nU 0) (.node (nU 0) (.node (nU 0) (.node (nU 0) (.node
  (nU 0) (.node (nU 0) (lA (nU 0) 14) (fA 15)) (.node (nU 0) (lA (nU 0) 14) (fA 15))) (.node (nU 0) (.node (nU 0) (lA (nU 0) 14) (fA 15)) (lA (nU 0) 15))) (.node (nU 0) (.node (nU 0)
  (.node (nU 0) (lA (nU 0) 14) (fA 15)) (lA (nU 0) 15)) (.node (nU 0) (.node (nU 0) (lA (nU 0) 14) (fA 15)) (lA (nU 0) 15)))) (.node (nU 0) (.node (nU 0) (.node (nU 0) (.node (nU 0)
  (lA (nU 0) 14) (fA 15)) (lA (nU 0) 15)) (.node (nU 0) (.node (nU 0) (lA (nU 0) 14) (fA 15)) (lA (nU 0) 15))) (.node (nU 0) (.node (nU 0) (.node (nU 0) (lA (nU 0) 14) (fA 15)) (lA
  (nU 0) 15)) (.node (nU 0) (.node (nU 0) (lA (nU 0) 14) (fA 15)) (lA (nU 0) 15))))) (.node (nU 0) (.node (nU 0) (.node (nU 0) (.node (nU 0) (.node (nU 0) (lA (nU 0) 14) (fA 15)) (lA
  (nU 0) 15)) (.node (nU 0) (.node (nU 0) (lA (nU 0) 14) (fA 15)) (lA (nU 0) 15))) (.node (nU 0) (.node (nU 0) (.node (nU 0) (lA (nU 0) 14) (fA 15)) (lA (nU 0) 15)) (.node (nU 0)
  (.node (nU 0) (lA (nU 0) 14) (fA 15)) (lA (nU 0) 15)))) (.node (nU 0) (.node (nU 0) (.node (nU 0) (.node (nU 0) (lA (nU 0) 14) (fA 15)) (lA (nU 0) 15)) (.node (nU 0) (.node (nU 0)
  (lA (nU 0) 14) (fA 15)) (lA (nU 0) 15))) (.node (nU 0) (.node (nU 0) (.node (nU 0) (lA (nU 0) 14) (fA 15)) (lA (nU 0) 15)) (.node (nU 0) (.node (nU 0) (lA (nU 0) 14) (fA 15)) (lA
  (nU 0) 15)))))) (.node (nU 0) (.node (nU 0) (.node (nU 0) (.node (nU 0) (.node (nU 0) (.node (nU 0) (lA (nU 0) 14) (fA 15)) (lA (nU 0) 15)) (.node (nU 0) (.node (nU 0) (lA (nU 0)
  14) (fA 15)) (lA (nU 0) 15))) (.node (nU 0) (.node (nU 0) (.node (nU 0) (lA (nU 0) 14) (fA 15)) (lA (nU 0) 15)) (.node (nU 0) (.node (nU 0) (lA (nU 0) 14) (fA 15)) (lA (nU 0)
  15)))) (.node (nU 0) (.node (nU 0) (.node (nU 0) (.node (nU 1152) (lA (nU 0) 14) (fA 15)) (lA (nU 0) 15)) (.node (nU 0) (.node (nU 0) (lA (nU 0) 14) (fA 15)) (lA (nU 0) 15)))
  (.node (nU 0) (.node (nU 0) (.node (nU 0) (lA (nU 0) 14) (fA 15)) (lA (nU 0) 15)) (.node (nU 0) (.node (nU 0) (lA (nU 0) 14) (fA 15)) (lA (nU 0) 15))))) (.node (nU 0) (.node (nU 0)
  (.node (nU 0) (.node (nU 0) (.node (nU 0) (lA (nU 0) 14) (fA 15)) (lA (nU 0) 15)) (.node (nU 0) (.node (nU 0) (lA (nU 0) 14) (fA 15)) (lA (nU 0) 15))) (.node (nU 0) (.node (nU 0)
  (.node (nU 1280) (lA (nU 0) 14) (fA 15)) (lA (nU 0) 15)) (.node (nU 0) (.node (nU 0) (lA (nU 0) 14) (fA 15)) (lA (nU 0) 15)))) (.node (nU 0) (.node (nU 0) (.node (nU 0) (.node (nU
  0) (lA (nU 0) 14) (fA 15)) (lA (nU 0) 15)) (.node (nU 0) (.node (nU 0) (lA (nU 0) 14) (fA 15)) (lA (nU 0) 15))) (.node (nU 0) (.node (nU 0) (.node (nU 0) (lA (nU 0) 14) (fA 15))
  (lA (nU 0) 15)) (.node (nU 0) (.node (nU 0) (lA (nU 0) 14) (fA 15)) (lA (nU 0) 15))))))) (.node (nU 0) (.node (nU 0) (.node (nU 0) (.node (nU 0) (.node (nU 0) (.node (nU 15) (.node
  (nU 7) (lA (nU 0) 14) (fA 15)) (lA (nU 0) 15)) (.node (nU 0) (.node (nU 2304) (lA (nU 0) 14) (fA 15)) (lA (nU 0) 15))) (.node (nU 0) (.node (nU 52) (.node (nU 3) (lA (nU 0) 14) (fA
  15)) (lA (nU 0) 15)) (.node (nU 0) (.node (nU 0) (lA (nU 0) 14) (fA 15)) (lA (nU 0) 15)))) (.node (nU 0) (.node (nU 0) (.node (nU 50) (.node (nU 1088) (lA (nU 0) 14) (fA 15)) (lA
  (nU 0) 15)) (.node (nU 0) (.node (nU 0) (lA (nU 0) 14) (fA 15)) (lA (nU 0) 15))) (.node (nU 0) (.node (nU 0) (.node (nU 0) (lA (nU 0) 14) (fA 15)) (lA (nU 0) 15)) (.node (nU 0)
  (.node (nU 0) (lA (nU 0) 14) (fA 15)) (lA (nU 0) 15))))) (.node (nU 0) (.node (nU 0) (.node (nU 0) (.node (nU 49) (.node (nU 0) (lA (nU 0) 14) (fA 15)) (lA (nU 0) 15)) (.node (nU
  0) (.node (nU 0) (lA (nU 0) 14) (fA 15)) (lA (nU 0) 15))) (.node (nU 0) (.node (nU 0) (.node (nU 1216) (lA (nU 0) 14) (fA 15)) (lA (nU 0) 15)) (.node (nU 0) (.node (nU 0) (lA (nU
  0) 14) (fA 15)) (lA (nU 0) 15)))) (.node (nU 0) (.node (nU 0) (.node (nU 51) (.node (nU 0) (lA (nU 0) 14) (fA 15)) (lA (nU 0) 15)) (.node (nU 0) (.node (nU 0) (lA (nU 0) 14) (fA
  15)) (lA (nU 0) 15))) (.node (nU 0) (.node (nU 0) (.node (nU 0) (lA (nU 0) 14) (fA 15)) (lA (nU 0) 15)) (.node (nU 0) (.node (nU 0) (lA (nU 0) 14) (fA 15)) (lA (nU 0) 15))))))
  (.node (nU 0) (.node (nU 0) (.node (nU 0) (.node (nU 0) (.node (nU 0) (.node (nU 0) (lA (nU 0) 14) (fA 15)) (lA (nU 0) 15)) (.node (nU 0) (.node (nU 0) (lA (nU 0) 14) (fA 15)) (lA
  (nU 0) 15))) (.node (nU 0) (.node (nU 0) (.node (nU 0) (lA (nU 0) 14) (fA 15)) (lA (nU 0) 15)) (.node (nU 0) (.node (nU 0) (lA (nU 0) 14) (fA 15)) (lA (nU 0) 15)))) (.node (nU 0)
  (.node (nU 0) (.node (nU 0) (.node (nU 0) (lA (nU 0) 14) (fA 15)) (lA (nU 0) 15)) (.node (nU 0) (.node (nU 0) (lA (nU 0) 14) (fA 15)) (lA (nU 0) 15))) (.node (nU 0) (.node (nU 0)
  (.node (nU 0) (lA (nU 0) 14) (fA 15)) (lA (nU 0) 15)) (.node (nU 0) (.node (nU 0) (lA (nU 0) 14) (fA 15)) (lA (nU 0) 15))))) (.node (nU 0) (.node (nU 0) (.node (nU 0) (.node (nU 0)
  (.node (nU 0) (lA (nU 0) 14) (fA 15)) (lA (nU 0) 15)) (.node (nU 0) (.node (nU 0) (lA (nU 0) 14) (fA 15)) (lA (nU 0) 15))) (.node (nU 0) (.node (nU 0) (.node (nU 0) (lA (nU 0) 14)
  (fA 15)) (lA (nU 0) 15)) (.node (nU 0) (.node (nU 0) (lA (nU 0) 14) (fA 15)) (lA (nU 0) 15)))) (.node (nU 0) (.node (nU 0) (.node (nU 0) (.node (nU 0) (lA (nU 0) 14) (fA 15)) (lA
  (nU 0) 15)) (.node (nU 0) (.node (nU 0) (lA (nU 0) 14) (fA 15)) (lA (nU 0) 15))) (.node (nU 0) (.node (nU 0) (.node (nU 0) (lA (nU 0) 14) (fA 15)) (lA (nU 0) 15)) (.node (nU 0)
  (.node (nU 0) (lA (nU 0) 14) (fA 15)) (lA (nU 0) 15)))))))) (.node (nU 2496) (.node (nU 0) (.node (nU 0) (.node (nU 0) (.node (nU 0) (.node (nU 0) (.node (nU 1) (.node (nU 3) (lA
  (nU 0) 14) (fA 15)) (lA (nU 0) 15)) (.node (nU 0) (.node (nU 3) (lA (nU 0) 14) (fA 15)) (lA (nU 0) 15))) (.node (nU 0) (.node (nU 1) (.node (nU 5495893775785918464) (lA (nU 0) 14)
  (fA 15)) (lA (nU 0) 15)) (.node (nU 0) (.node (nU 0) (lA (nU 0) 14) (fA 15)) (lA (nU 0) 15)))) (.node (nU 0) (.node (nU 0) (.node (nU 1) (.node (nU 1) (lA (nU 0) 14) (fA 15)) (lA
  (nU 0) 15)) (.node (nU 0) (.node (nU 0) (lA (nU 0) 14) (fA 15)) (lA (nU 0) 15))) (.node (nU 0) (.node (nU 0) (.node (nU 0) (lA (nU 0) 14) (fA 15)) (lA (nU 0) 15)) (.node (nU 0)
  (.node (nU 0) (lA (nU 0) 14) (fA 15)) (lA (nU 0) 15))))) (.node (nU 0) (.node (nU 0) (.node (nU 0) (.node (nU 1) (.node (nU 5495893775785918464) (lA (nU 0) 14) (fA 15)) (lA (nU 0)
  15)) (.node (nU 0) (.node (nU 0) (lA (nU 0) 14) (fA 15)) (lA (nU 0) 15))) (.node (nU 0) (.node (nU 0) (.node (nU 3) (lA (nU 0) 14) (fA 15)) (lA (nU 0) 15)) (.node (nU 0) (.node (nU
  0) (lA (nU 0) 14) (fA 15)) (lA (nU 0) 15)))) (.node (nU 0) (.node (nU 0) (.node (nU 1) (.node (nU 0) (lA (nU 0) 14) (fA 15)) (lA (nU 0) 15)) (.node (nU 0) (.node (nU 0) (lA (nU 0)
  14) (fA 15)) (lA (nU 0) 15))) (.node (nU 0) (.node (nU 0) (.node (nU 5495893775785918465) (lA (nU 0) 14) (fA 15)) (lA (nU 0) 15)) (.node (nU 0) (.node (nU 0) (lA (nU 0) 14) (fA
  15)) (lA (nU 0) 15)))))) (.node (nU 0) (.node (nU 0) (.node (nU 0) (.node (nU 0) (.node (nU 0) (.node (nU 0) (lA (nU 0) 14) (fA 15)) (lA (nU 0) 15)) (.node (nU 0) (.node (nU 0) (lA
  (nU 0) 14) (fA 15)) (lA (nU 0) 15))) (.node (nU 0) (.node (nU 0) (.node (nU 2304) (lA (nU 0) 14) (fA 15)) (lA (nU 0) 15)) (.node (nU 0) (.node (nU 0) (lA (nU 0) 14) (fA 15)) (lA
  (nU 0) 15)))) (.node (nU 0) (.node (nU 0) (.node (nU 0) (.node (nU 0) (lA (nU 0) 14) (fA 15)) (lA (nU 0) 15)) (.node (nU 0) (.node (nU 0) (lA (nU 0) 14) (fA 15)) (lA (nU 0) 15)))
  (.node (nU 0) (.node (nU 0) (.node (nU 0) (lA (nU 0) 14) (fA 15)) (lA (nU 0) 15)) (.node (nU 0) (.node (nU 0) (lA (nU 0) 14) (fA 15)) (lA (nU 0) 15))))) (.node (nU 0) (.node (nU 0)
  (.node (nU 0) (.node (nU 0) (.node (nU 2112) (lA (nU 0) 14) (fA 15)) (lA (nU 0) 15)) (.node (nU 0) (.node (nU 0) (lA (nU 0) 14) (fA 15)) (lA (nU 0) 15))) (.node (nU 0) (.node (nU
  0) (.node (nU 0) (lA (nU 0) 14) (fA 15)) (lA (nU 0) 15)) (.node (nU 0) (.node (nU 0) (lA (nU 0) 14) (fA 15)) (lA (nU 0) 15)))) (.node (nU 0) (.node (nU 0) (.node (nU 0) (.node (nU
  0) (lA (nU 0) 14) (fA 15)) (lA (nU 0) 15)) (.node (nU 0) (.node (nU 0) (lA (nU 0) 14) (fA 15)) (lA (nU 0) 15))) (.node (nU 0) (.node (nU 0) (.node (nU 2112) (lA (nU 0) 14) (fA 15))
  (lA (nU 0) 15)) (.node (nU 0) (.node (nU 0) (lA (nU 0) 14) (fA 15)) (lA (nU 0) 15))))))) (.node (nU 0) (.node (nU 0) (.node (nU 0) (.node (nU 0) (.node (nU 0) (.node (nU 0) (.node
  (nU 0) (lA (nU 0) 14) (fA 15)) (lA (nU 0) 15)) (.node (nU 0) (.node (nU 0) (lA (nU 0) 14) (fA 15)) (lA (nU 0) 15))) (.node (nU 0) (.node (nU 0) (.node (nU 0) (lA (nU 0) 14) (fA
  15)) (lA (nU 0) 15)) (.node (nU 0) (.node (nU 0) (lA (nU 0) 14) (fA 15)) (lA (nU 0) 15)))) (.node (nU 0) (.node (nU 0) (.node (nU 0) (.node (nU 2) (lA (nU 0) 14) (fA 15)) (lA (nU
  0) 15)) (.node (nU 0) (.node (nU 0) (lA (nU 0) 14) (fA 15)) (lA (nU 0) 15))) (.node (nU 0) (.node (nU 0) (.node (nU 0) (lA (nU 0) 14) (fA 15)) (lA (nU 0) 15)) (.node (nU 0) (.node
  (nU 0) (lA (nU 0) 14) (fA 15)) (lA (nU 0) 15))))) (.node (nU 0) (.node (nU 0) (.node (nU 0) (.node (nU 0) (.node (nU 2304) (lA (nU 0) 14) (fA 15)) (lA (nU 0) 15)) (.node (nU 0)
  (.node (nU 0) (lA (nU 0) 14) (fA 15)) (lA (nU 0) 15))) (.node (nU 0) (.node (nU 0) (.node (nU 4) (lA (nU 0) 14) (fA 15)) (lA (nU 0) 15)) (.node (nU 0) (.node (nU 0) (lA (nU 0) 14)
  (fA 15)) (lA (nU 0) 15)))) (.node (nU 0) (.node (nU 0) (.node (nU 0) (.node (nU 0) (lA (nU 0) 14) (fA 15)) (lA (nU 0) 15)) (.node (nU 0) (.node (nU 0) (lA (nU 0) 14) (fA 15)) (lA
  (nU 0) 15))) (.node (nU 0) (.node (nU 0) (.node (nU 0) (lA (nU 0) 14) (fA 15)) (lA (nU 0) 15)) (.node (nU 0) (.node (nU 0) (lA (nU 0) 14) (fA 15)) (lA (nU 0) 15)))))) (.node (nU 0)
  (.node (nU 0) (.node (nU 0) (.node (nU 0) (.node (nU 0) (.node (nU 0) (lA (nU 0) 14) (fA 15)) (lA (nU 0) 15)) (.node (nU 0) (.node (nU 0) (lA (nU 0) 14) (fA 15)) (lA (nU 0) 15)))
  (.node (nU 0) (.node (nU 0) (.node (nU 0) (lA (nU 0) 14) (fA 15)) (lA (nU 0) 15)) (.node (nU 0) (.node (nU 0) (lA (nU 0) 14) (fA 15)) (lA (nU 0) 15)))) (.node (nU 0) (.node (nU 0)
  (.node (nU 0) (.node (nU 0) (lA (nU 0) 14) (fA 15)) (lA (nU 0) 15)) (.node (nU 0) (.node (nU 0) (lA (nU 0) 14) (fA 15)) (lA (nU 0) 15))) (.node (nU 0) (.node (nU 0) (.node (nU 0)
  (lA (nU 0) 14) (fA 15)) (lA (nU 0) 15)) (.node (nU 0) (.node (nU 0) (lA (nU 0) 14) (fA 15)) (lA (nU 0) 15))))) (.node (nU 0) (.node (nU 0) (.node (nU 0) (.node (nU 0) (.node (nU 0)
  (lA (nU 0) 14) (fA 15)) (lA (nU 0) 15)) (.node (nU 0) (.node (nU 0) (lA (nU 0) 14) (fA 15)) (lA (nU 0) 15))) (.node (nU 0) (.node (nU 0) (.node (nU 0) (lA (nU 0) 14) (fA 15)) (lA
  (nU 0) 15)) (.node (nU 0) (.node (nU 0) (lA (nU 0) 14) (fA 15)) (lA (nU 0) 15)))) (.node (nU 0) (.node (nU 0) (.node (nU 0) (.node (nU 0) (lA (nU 0) 14) (fA 15)) (lA (nU 0) 15))
  (.node (nU 0) (.node (nU 0) (lA (nU 0) 14) (fA 15)) (lA (nU 0) 15))) (.node (nU 0) (.node (nU 0) (.node (nU 0) (lA (nU 0) 14) (fA 15)) (lA (nU 0) 15)) (.node (nU 0) (.node (nU 0)
  (lA (nU 0) 14) (fA 15)) (lA (nU 0) 15))))))))) false false) 12) (fD 13)) (fD 14))) (fD 16)) (fD 17))) (.node .dead (.node .dead (.node .dead (.node .dead (.node .dead (fD 14)
  (.node .dead (lD (.cells 125 3 3 (.node (.ptr 1050 0) (lA (.ptr 2340 0) 22) (lA (.ptr 2574 0) 22)) true false) 12) (fD 13))) (fD 15)) (fD 16)) (fD 17)) (fD 18))) (.node .dead
  (.node .dead (fD 18) (.node .dead (.node .dead (.node .dead (fD 15) (.node .dead (.node .dead (lD (.cells 271 1 1 (lA (.sl 2461 0 0 11 (.u 2461 0)) 23) true false) 12) (fD 13)) (fD
  14))) (fD 16)) (fD 17))) (fD 19))) (.node .dead (.node .dead (.node .dead (fD 18) (.node .dead (.node .dead (.node .dead (fD 15) (.node .dead (.node .dead (lD (.map [⟨(nU 1088),
  (nI 2), 0⟩, ⟨(nU 1152), (nI 2), 1⟩, ⟨(nU 1216), (nI 2), 2⟩, ⟨(nU 1280), (nI 2), 3⟩, ⟨(nU 2112), (nI 2), 4⟩, ⟨(nU 2304), (nI 2), 5⟩, ⟨(nU 2496), (nI 2), 6⟩] 7) 12) (fD 13)) (fD
  14))) (fD 16)) (.node .dead (.node .dead (fD 15) (.node .dead (fD 14) (.node .dead (lD (.cells 5 1 5120 (.node (nB 70) (.node (nB 65) (.node (nB 84) (.node (nB 82) (.node (nB 0)
  (.node (nB 255) (.node (nB 0) (.node (nB 0) (.node (nB 0) (lB (nB 0) 14) (fB 15)) (.node (nB 0) (lB (nB 0) 14) (fB 15))) (.node (nB 0) (.node (nB 0) (lB (nB 0) 14) (fB 15)) (.node
  (nB 0) (lB (nB 0) 14) (fB 15)))) (.node (nB 0) (.node (nB 0) (.node (nB 0) (lB (nB 0) 14) (fB 15)) (.node (nB 0) (lB (nB 0) 14) (fB 15))) (.node (nB 0) (.node (nB 0) (lB (nB 0) 14)
  (fB 15)) (lB (nB 0) 15)))) (.node (nB 0) (.node (nB 0) (.node (nB 0) (.node (nB 0) (lB (nB 0) 14) (fB 15)) (.node (nB 0) (lB (nB 0) 14) (fB 15))) (.node (nB 0) (.node (nB 0) (lB
  (nB 0) 14) (fB 15)) (.node (nB 0) (lB (nB 0) 14) (fB 15)))) (.node (nB 0) (.node (nB 0) (.node (nB 0) (lB (nB 0) 14) (fB 15)) (.node (nB 0) (lB (nB 0) 14) (fB 15))) (.node (nB 0)
  (.node (nB 0) (lB (nB 0) 14) (fB 15)) (lB (nB 0) 15))))) (.node (nB 0) (.node (nB 0) (.node (nB 0) (.node (nB 0) (.node (nB 0) (lB (nB 0) 14) (fB 15)) (.node (nB 0) (lB (nB 0) 14)
  (fB 15))) (.node (nB 0) (.node (nB 0) (lB (nB 0) 14) (fB 15)) (.node (nB 0) (lB (nB 0) 14) (fB 15)))) (.node (nB 0) (.node (nB 0) (.node (nB 0) (lB (nB 0) 14) (fB 15)) (.node (nB
  0) (lB (nB 0) 14) (fB 15))) (.node (nB 0) (.node (nB 0) (lB (nB 0) 14) (fB 15)) (lB (nB 0) 15)))) (.node (nB 0) (.node (nB 0) (.node (nB 0) (.node (nB 0) (lB (nB 0) 14) (fB 15))
  (.node (nB 0) (lB (nB 0) 14) (fB 15))) (.node (nB 0) (.node (nB 0) (lB (nB 0) 14) (fB 15)) (.node (nB 0) (lB (nB 0) 14) (fB 15)))) (.node (nB 0) (.node (nB 0) (.node (nB 0) (lB (nB
  0) 14) (fB 15)) (.node (nB 0) (lB (nB 0) 14) (fB 15))) (.node (nB 0) (.node (nB 0) (lB (nB 0) 14) (fB 15)) (lB (nB 0) 15)))))) (.node (nB 0) (.node (nB 0) (.node (nB 0) (.node (nB
  0) (.node (nB 0) (.node (nB 0) (lB (nB 0) 14) (fB 15)) (.node (nB 0) (lB (nB 0) 14) (fB 15))) (.node (nB 0) (.node (nB 0) (lB (nB 0) 14) (fB 15)) (.node (nB 0) (lB (nB 0) 14) (fB
  15)))) (.node (nB 0) (.node (nB 0) (.node (nB 0) (lB (nB 0) 14) (fB 15)) (.node (nB 0) (lB (nB 0) 14) (fB 15))) (.node (nB 0) (.node (nB 0) (lB (nB 0) 14) (fB 15)) (lB (nB 0)
  15)))) (.node (nB 0) (.node (nB 0) (.node (nB 0) (.node (nB 0) (lB (nB 0) 14) (fB 15)) (.node (nB 0) (lB (nB 0) 14) (fB 15))) (.node (nB 0) (.node (nB 0) (lB (nB 0) 14) (fB 15))
  (.node (nB 0) (lB (nB 0) 14) (fB 15)))) (.node (nB 0) (.node (nB 0) (.node (nB 0) (lB (nB 0) 14) (fB 15)) (.node (nB 0) (lB (nB 0) 14) (fB 15))) (.node (nB 0) (.node (nB 0) (lB (nB
  0) 14) (fB 15)) (lB (nB 0) 15))))) (.node (nB 255) (.node (nB 0) (.node (nB 0) (.node (nB 0) (.node (nB 0) (lB (nB 0) 14) (fB 15)) (.node (nB 0) (lB (nB 0) 14) (fB 15))) (.node (nB
  0) (.node (nB 0) (lB (nB 0) 14) (fB 15)) (.node (nB 0) (lB (nB 0) 14) (fB 15)))) (.node (nB 0) (.node (nB 0) (.node (nB 0) (lB (nB 0) 14) (fB 15)) (.node (nB 0) (lB (nB 0) 14) (fB
  15))) (.node (nB 0) (.node (nB 0) (lB (nB 0) 14) (fB 15)) (lB (nB 0) 15)))) (.node (nB 0) (.node (nB 0) (.node (nB 0) (.node (nB 0) (lB (nB 0) 14) (fB 15)) (.node (nB 0) (lB (nB 0)
  14) (fB 15))) (.node (nB 0) (.node (nB 0) (lB (nB 0) 14) (fB 15)) (lB (nB 0) 15))) (.node (nB 0) (.node (nB 0) (.node (nB 0) (lB (nB 0) 14) (fB 15)) (.node (nB 0) (lB (nB 0) 14)
  (fB 15))) (.node (nB 0) (.node (nB 0) (lB (nB 0) 14) (fB 15)) (lB (nB 0) 15))))))) (.node (nB 65) (.node (nB 20) (.node (nB 9) (.node (nB 0) (.node (nB 0) (.node (nB 0) (.node (nB
  0) (lB (nB 0) 14) (fB 15)) (.node (nB 0) (lB (nB 0) 14) (fB 15))) (.node (nB 0) (.node (nB 0) (lB (nB 0) 14) (fB 15)) (.node (nB 0) (lB (nB 0) 14) (fB 15)))) (.node (nB 0) (.node
  (nB 0) (.node (nB 0) (lB (nB 0) 14) (fB 15)) (.node (nB 0) (lB (nB 0) 14) (fB 15))) (.node (nB 0) (.node (nB 0) (lB (nB 0) 14) (fB 15)) (lB (nB 0) 15)))) (.node (nB 0) (.node (nB
  0) (.node (nB 0) (.node (nB 0) (lB (nB 0) 14) (fB 15)) (.node (nB 0) (lB (nB 0) 14) (fB 15))) (.node (nB 0) (.node (nB 0) (lB (nB 0) 14) (fB 15)) (.node (nB 0) (lB (nB 0) 14) (fB
  15)))) (.node (nB 0) (.node (nB 0) (.node (nB 0) (lB (nB 0) 14) (fB 15)) (.node (nB 0) (lB (nB 0) 14) (fB 15))) (.node (nB 0) (.node (nB 0) (lB (nB 0) 14) (fB 15)) (lB (nB 0)
  15))))) (.node (nB 235) (.node (nB 0) (.node (nB 0) (.node (nB 0) (.node (nB 0) (lB (nB 0) 14) (fB 15)) (.node (nB 0) (lB (nB 0) 14) (fB 15))) (.node (nB 0) (.node (nB 0) (lB (nB
  0) 14) (fB 15)) (.node (nB 0) (lB (nB 0) 14) (fB 15)))) (.node (nB 0) (.node (nB 0) (.node (nB 0) (lB (nB 0) 14) (fB 15)) (.node (nB 0) (lB (nB 0) 14) (fB 15))) (.node (nB 0)
  (.node (nB 0) (lB (nB 0) 14) (fB 15)) (lB (nB 0) 15)))) (.node (nB 0) (.node (nB 0) (.node (nB 0) (.node (nB 0) (lB (nB 0) 14) (fB 15)) (.node (nB 0) (lB (nB 0) 14) (fB 15)))
  (.node (nB 0) (.node (nB 0) (lB (nB 0) 14) (fB 15)) (lB (nB 0) 15))) (.node (nB 0) (.node (nB 0) (.node (nB 0) (lB (nB 0) 14) (fB 15)) (.node (nB 0) (lB (nB 0) 14) (fB 15))) (.node
  (nB 0) (.node (nB 0) (lB (nB 0) 14) (fB 15)) (lB (nB 0) 15)))))) (.node (nB 0) (.node (nB 0) (.node (nB 0) (.node (nB 0) (.node (nB 0) (.node (nB 0) (lB (nB 0) 14) (fB 15)) (.node
  (nB 0) (lB (nB 0) 14) (fB 15))) (.node (nB 0) (.node (nB 0) (lB (nB 0) 14) (fB 15)) (.node (nB 0) (lB (nB 0) 14) (fB 15)))) (.node (nB 0) (.node (nB 0) (.node (nB 0) (lB (nB 0) 14)
  (fB 15)) (.node (nB 0) (lB (nB 0) 14) (fB 15))) (.node (nB 0) (.node (nB 0) (lB (nB 0) 14) (fB 15)) (lB (nB 0) 15)))) (.node (nB 0) (.node (nB 0) (.node (nB 0) (.node (nB 0) (lB
  (nB 0) 14) (fB 15)) (.node (nB 0) (lB (nB 0) 14) (fB 15))) (.node (nB 0) (.node (nB 0) (lB (nB 0) 14) (fB 15)) (.node (nB 0) (lB (nB 0) 14) (fB 15)))) (.node (nB 0) (.node (nB 0)
  (.node (nB 0) (lB (nB 0) 14) (fB 15)) (.node (nB 0) (lB (nB 0) 14) (fB 15))) (.node (nB 0) (.node (nB 0) (lB (nB 0) 14) (fB 15)) (lB (nB 0) 15))))) (.node (nB 255) (.node (nB 0)
  (.node (nB 0) (.node (nB 0) (.node (nB 0) (lB (nB 0) 14) (fB 15)) (.node (nB 0) (lB (nB 0) 14) (fB 15))) (.node (nB 0) (.node (nB 0) (lB (nB 0) 14) (fB 15)) (.node (nB 0) (lB (nB
  0) 14) (fB 15)))) (.node (nB 0) (.node (nB 0) (.node (nB 0) (lB (nB 0) 14) (fB 15)) (.node (nB 0) (lB (nB 0) 14) (fB 15))) (.node (nB 0) (.node (nB 0) (lB (nB 0) 14) (fB 15)) (lB
  (nB 0) 15)))) (.node (nB 0) (.node (nB 0) (.node (nB 0) (.node (nB 0) (lB (nB 0) 14) (fB 15)) (.node (nB 0) (lB (nB 0) 14) (fB 15))) (.node (nB 0) (.node (nB 0) (lB (nB 0) 14) (fB
  15)) (lB (nB 0) 15))) (.node (nB 0) (.node (nB 0) (.node (nB 0) (lB (nB 0) 14) (fB 15)) (.node (nB 0) (lB (nB 0) 14) (fB 15))) (.node (nB 0) (.node (nB 0) (lB (nB 0) 14) (fB 15))
  (lB (nB 0) 15)))))))) (.node (nB 83) (.node (nB 70) (.node (nB 0) (.node (nB 192) (.node (nB 0) (.node (nB 0) (.node (nB 0) (.node (nB 0) (.node (nB 0) (lB (nB 1) 13) (fB 14)) (fB
  15)) (.node (nB 0) (.node (nB 0) (lB (nB 1) 13) (fB 14)) (fB 15))) (.node (nB 0) (.node (nB 0) (.node (nB 0) (lB (nB 1) 13) (fB 14)) (fB 15)) (.node (nB 0) (.node (nB 0) (lB (nB 1)
  13) (fB 14)) (fB 15)))) (.node (nB 0) (.node (nB 0) (.node (nB 0) (lB (nB 0) 14) (fB 15)) (.node (nB 0) (lB (nB 0) 14) (fB 15))) (.node (nB 0) (.node (nB 0) (lB (nB 0) 14) (fB 15))
  (lB (nB 0) 15)))) (.node (nB 0) (.node (nB 0) (.node (nB 0) (.node (nB 0) (lB (nB 0) 14) (fB 15)) (.node (nB 0) (lB (nB 0) 14) (fB 15))) (.node (nB 0) (.node (nB 0) (lB (nB 0) 14)
  (fB 15)) (.node (nB 0) (lB (nB 0) 14) (fB 15)))) (.node (nB 0) (.node (nB 0) (.node (nB 0) (lB (nB 0) 14) (fB 15)) (.node (nB 0) (lB (nB 0) 14) (fB 15))) (.node (nB 0) (.node (nB
  0) (lB (nB 0) 14) (fB 15)) (lB (nB 0) 15))))) (.node (nB 255) (.node (nB 0) (.node (nB 0) (.node (nB 0) (.node (nB 0) (.node (nB 0) (lB (nB 15) 13) (fB 14)) (fB 15)) (.node (nB 0)
  (.node (nB 0) (lB (nB 50) 13) (fB 14)) (fB 15))) (.node (nB 0) (.node (nB 0) (.node (nB 0) (lB (nB 49) 13) (fB 14)) (fB 15)) (.node (nB 0) (.node (nB 0) (lB (nB 51) 13) (fB 14))
  (fB 15)))) (.node (nB 0) (.node (nB 0) (.node (nB 0) (lB (nB 0) 14) (fB 15)) (.node (nB 0) (lB (nB 0) 14) (fB 15))) (.node (nB 0) (.node (nB 0) (lB (nB 0) 14) (fB 15)) (lB (nB 0)
  15)))) (.node (nB 0) (.node (nB 0) (.node (nB 0) (.node (nB 0) (lB (nB 0) 14) (fB 15)) (.node (nB 0) (lB (nB 0) 14) (fB 15))) (.node (nB 0) (.node (nB 0) (lB (nB 0) 14) (fB 15))
  (lB (nB 0) 15))) (.node (nB 0) (.node (nB 0) (.node (nB 0) (lB (nB 0) 14) (fB 15)) (.node (nB 0) (lB (nB 0) 14) (fB 15))) (.node (nB 0) (.node (nB 0) (lB (nB 0) 14) (fB 15)) (lB
  (nB 0) 15)))))) (.node (nB 0) (.node (nB 0) (.node (nB 0) (.node (nB 0) (.node (nB 0) (.node (nB 0) (lB (nB 0) 14) (fB 15)) (.node (nB 0) (lB (nB 0) 14) (fB 15))) (.node (nB 0)
  (.node (nB 0) (lB (nB 0) 14) (fB 15)) (.node (nB 0) (lB (nB 0) 14) (fB 15)))) (.node (nB 0) (.node (nB 0) (.node (nB 0) (lB (nB 0) 14) (fB 15)) (.node (nB 0) (lB (nB 0) 14) (fB
  15))) (.node (nB 0) (.node (nB 0) (lB (nB 0) 14) (fB 15)) (lB (nB 0) 15)))) (.node (nB 0) (.node (nB 0) (.node (nB 0) (.node (nB 0) (lB (nB 0) 14) (fB 15)) (.node (nB 0) (lB (nB 0)
  14) (fB 15))) (.node (nB 0) (.node (nB 0) (lB (nB 0) 14) (fB 15)) (.node (nB 0) (lB (nB 0) 14) (fB 15)))) (.node (nB 0) (.node (nB 0) (.node (nB 0) (lB (nB 0) 14) (fB 15)) (.node
  (nB 0) (lB (nB 0) 14) (fB 15))) (.node (nB 0) (.node (nB 0) (lB (nB 0) 14) (fB 15)) (lB (nB 0) 15))))) (.node (nB 255) (.node (nB 0) (.node (nB 0) (.node (nB 0) (.node (nB 0) (lB
  (nB 0) 14) (fB 15)) (.node (nB 0) (lB (nB 0) 14) (fB 15))) (.node (nB 0) (.node (nB 0) (lB (nB 0) 14) (fB 15)) (.node (nB 0) (lB (nB 0) 14) (fB 15)))) (.node (nB 0) (.node (nB 0)
  (.node (nB 0) (lB (nB 0) 14) (fB 15)) (.node (nB 0) (lB (nB 0) 14) (fB 15))) (.node (nB 0) (.node (nB 0) (lB (nB 0) 14) (fB 15)) (lB (nB 0) 15)))) (.node (nB 0) (.node (nB 0)
  (.node (nB 0) (.node (nB 0) (lB (nB 0) 14) (fB 15)) (.node (nB 0) (lB (nB 0) 14) (fB 15))) (.node (nB 0) (.node (nB 0) (lB (nB 0) 14) (fB 15)) (lB (nB 0) 15))) (.node (nB 0) (.node
  (nB 0) (.node (nB 0) (lB (nB 0) 14) (fB 15)) (.node (nB 0) (lB (nB 0) 14) (fB 15))) (.node (nB 0) (.node (nB 0) (lB (nB 0) 14) (fB 15)) (lB (nB 0) 15))))))) (.node (nB 73) (.node
  (nB 0) (.node (nB 0) (.node (nB 0) (.node (nB 0) (.node (nB 0) (.node (nB 0) (lB (nB 0) 14) (fB 15)) (.node (nB 0) (lB (nB 0) 14) (fB 15))) (.node (nB 0) (.node (nB 0) (lB (nB 0)
  14) (fB 15)) (.node (nB 0) (lB (nB 0) 14) (fB 15)))) (.node (nB 0) (.node (nB 0) (.node (nB 0) (lB (nB 0) 14) (fB 15)) (.node (nB 0) (lB (nB 0) 14) (fB 15))) (.node (nB 0) (.node
  (nB 0) (lB (nB 0) 14) (fB 15)) (lB (nB 0) 15)))) (.node (nB 0) (.node (nB 0) (.node (nB 0) (.node (nB 0) (lB (nB 0) 14) (fB 15)) (.node (nB 0) (lB (nB 0) 14) (fB 15))) (.node (nB
  0) (.node (nB 0) (lB (nB 0) 14) (fB 15)) (.node (nB 0) (lB (nB 0) 14) (fB 15)))) (.node (nB 0) (.node (nB 0) (.node (nB 0) (lB (nB 0) 14) (fB 15)) (.node (nB 0) (lB (nB 0) 14) (fB
  15))) (.node (nB 0) (.node (nB 0) (lB (nB 0) 14) (fB 15)) (lB (nB 0) 15))))) (.node (nB 255) (.node (nB 0) (.node (nB 0) (.node (nB 0) (.node (nB 0) (lB (nB 0) 14) (fB 15)) (.node
  (nB 0) (lB (nB 0) 14) (fB 15))) (.node (nB 0) (.node (nB 0) (lB (nB 0) 14) (fB 15)) (.node (nB 0) (lB (nB 0) 14) (fB 15)))) (.node (nB 0) (.node (nB 0) (.node (nB 0) (lB (nB 0) 14)
  (fB 15)) (.node (nB 0) (lB (nB 0) 14) (fB 15))) (.node (nB 0) (.node (nB 0) (lB (nB 0) 14) (fB 15)) (lB (nB 0) 15)))) (.node (nB 0) (.node (nB 0) (.node (nB 0) (.node (nB 0) (lB
  (nB 0) 14) (fB 15)) (.node (nB 0) (lB (nB 0) 14) (fB 15))) (.node (nB 0) (.node (nB 0) (lB (nB 0) 14) (fB 15)) (lB (nB 0) 15))) (.node (nB 0) (.node (nB 0) (.node (nB 0) (lB (nB 0)
  14) (fB 15)) (.node (nB 0) (lB (nB 0) 14) (fB 15))) (.node (nB 0) (.node (nB 0) (lB (nB 0) 14) (fB 15)) (lB (nB 0) 15)))))) (.node (nB 0) (.node (nB 0) (.node (nB 0) (.node (nB 0)
  (.node (nB 0) (.node (nB 0) (lB (nB 0) 14) (fB 15)) (.node (nB 0) (lB (nB 0) 14) (fB 15))) (.node (nB 0) (.node (nB 0) (lB (nB 0) 14) (fB 15)) (.node (nB 0) (lB (nB 0) 14) (fB
  15)))) (.node (nB 0) (.node (nB 0) (.node (nB 0) (lB (nB 0) 14) (fB 15)) (.node (nB 0) (lB (nB 0) 14) (fB 15))) (.node (nB 0) (.node (nB 0) (lB (nB 0) 14) (fB 15)) (lB (nB 0)
  15)))) (.node (nB 0) (.node (nB 0) (.node (nB 0) (.node (nB 0) (lB (nB 0) 14) (fB 15)) (.node (nB 0) (lB (nB 0) 14) (fB 15))) (.node (nB 0) (.node (nB 0) (lB (nB 0) 14) (fB 15))
  (.node (nB 0) (lB (nB 0) 14) (fB 15)))) (.node (nB 0) (.node (nB 0) (.node (nB 0) (lB (nB 0) 14) (fB 15)) (.node (nB 0) (lB (nB 0) 14) (fB 15))) (.node (nB 0) (.node (nB 0) (lB (nB
  0) 14) (fB 15)) (lB (nB 0) 15))))) (.node (nB 255) (.node (nB 0) (.node (nB 0) (.node (nB 0) (.node (nB 0) (lB (nB 0) 14) (fB 15)) (.node (nB 0) (lB (nB 0) 14) (fB 15))) (.node (nB
  0) (.node (nB 0) (lB (nB 0) 14) (fB 15)) (.node (nB 0) (lB (nB 0) 14) (fB 15)))) (.node (nB 0) (.node (nB 0) (.node (nB 0) (lB (nB 0) 14) (fB 15)) (.node (nB 0) (lB (nB 0) 14) (fB
  15))) (.node (nB 0) (.node (nB 0) (lB (nB 0) 14) (fB 15)) (lB (nB 0) 15)))) (.node (nB 0) (.node (nB 0) (.node (nB 0) (.node (nB 0) (lB (nB 0) 14) (fB 15)) (.node (nB 0) (lB (nB 0)
  14) (fB 15))) (.node (nB 0) (.node (nB 0) (lB (nB 0) 14) (fB 15)) (lB (nB 0) 15))) (.node (nB 0) (.node (nB 0) (.node (nB 0) (lB (nB 0) 14) (fB 15)) (.node (nB 0) (lB (nB 0) 14)
  (fB 15))) (.node (nB 0) (.node (nB 0) (lB (nB 0) 14) (fB 15)) (lB (nB 0) 15))))))))) true false) 12) (fD 13)))) (fD 16)))) (.node .dead (.node .dead (.node .dead (.node .dead
  (.node .dead (fD 14) (.node .dead (lD (.cells 37 16 16 (.node (.ptr 2575 0) (.node (nI 0) (.node (nI 1) (.node .nil (lA (nI 0) 19) (fA 20)) (lA (.ifc 215 (.ptr 2901 0)) 20)) (.node
  (nU 2304) (lA (nU 2112) 20) (lA (.bool false) 20))) (.node (.sl 2578 0 0 0 (.k 1)) (.node (nU 3) (lA .nil 20) (lA (.fn (.func 36) [(.ptr 2579 0)] []) 20)) (.node (.ptr 2580 0) (lA
  (nU 2496) 20) (lA (.bool true) 20)))) true false) 12) (fD 13))) (fD 15)) (fD 16)) (fD 17)) (fD 18))) (.node .dead (fD 19) (.node .dead (fD 18) (.node .dead (.node .dead (.node
  .dead (.node .dead (.node .dead (.node .dead (lD (.cells 5 1 1 (lA (nB 0) 23) true false) 11) (fD 12)) (fD 13)) (fD 14)) (fD 15)) (fD 16)) (fD 17)))))) (.node .dead (.node .dead
  (.node .dead (.node .dead (fD 18) (.node .dead (.node .dead (.node .dead (fD 15) (.node .dead (.node .dead (lD (.cells 25 1 640 (.node (nU 5929342154728227142) (.node (nU 5120)
  (.node (nU 18446744073709546495) (.node (nU 0) (.node (nU 0) (.node (nU 0) (.node (nU 0) (.node (nU 0) (.node (nU 0) (lA (nU 0) 14) (fA 15)) (.node (nU 0) (lA (nU 0) 14) (fA 15)))
  (.node (nU 0) (.node (nU 0) (lA (nU 0) 14) (fA 15)) (lA (nU 0) 15))) (.node (nU 0) (.node (nU 0) (.node (nU 0) (lA (nU 0) 14) (fA 15)) (lA (nU 0) 15)) (.node (nU 0) (.node (nU 0)
  (lA (nU 0) 14) (fA 15)) (lA (nU 0) 15)))) (.node (nU 0) (.node (nU 0) (.node (nU 0) (.node (nU 0) (lA (nU 0) 14) (fA 15)) (lA (nU 0) 15)) (.node (nU 0) (.node (nU 0) (lA (nU 0) 14)
  (fA 15)) (lA (nU 0) 15))) (.node (nU 0) (.node (nU 0) (.node (nU 0) (lA (nU 0) 14) (fA 15)) (lA (nU 0) 15)) (.node (nU 0) (.node (nU 0) (lA (nU 0) 14) (fA 15)) (lA (nU 0) 15)))))
  (.node (nU 0) (.node (nU 0) (.node (nU 0) (.node (nU 0) (.node (nU 0) (lA (nU 0) 14) (fA 15)) (lA (nU 0) 15)) (.node (nU 0) (.node (nU 0) (lA (nU 0) 14) (fA 15)) (lA (nU 0) 15)))
  (.node (nU 0) (.node (nU 0) (.node (nU 0) (lA (nU 0) 14) (fA 15)) (lA (nU 0) 15)) (.node (nU 0) (.node (nU 0) (lA (nU 0) 14) (fA 15)) (lA (nU 0) 15)))) (.node (nU 0) (.node (nU 0)
  (.node (nU 0) (.node (nU 0) (lA (nU 0) 14) (fA 15)) (lA (nU 0) 15)) (.node (nU 0) (.node (nU 0) (lA (nU 0) 14) (fA 15)) (lA (nU 0) 15))) (.node (nU 0) (.node (nU 0) (.node (nU 0)
  (lA (nU 0) 14) (fA 15)) (lA (nU 0) 15)) (.node (nU 0) (.node (nU 0) (lA (nU 0) 14) (fA 15)) (lA (nU 0) 15)))))) (.node (nU 0) (.node (nU 0) (.node (nU 0) (.node (nU 0) (.node (nU
  0) (.node (nU 0) (lA (nU 0) 14) (fA 15)) (lA (nU 0) 15)) (.node (nU 0) (.node (nU 0) (lA (nU 0) 14) (fA 15)) (lA (nU 0) 15))) (.node (nU 0) (.node (nU 0) (.node (nU 0) (lA (nU 0)
  14) (fA 15)) (lA (nU 0) 15)) (.node (nU 0) (.node (nU 0) (lA (nU 0) 14) (fA 15)) (lA (nU 0) 15)))) (.node (nU 0) (.node (nU 0) (.node (nU 0) (.node (nU 1152) (lA (nU 0) 14) (fA
  15)) (lA (nU 0) 15)) (.node (nU 0) (.node (nU 0) (lA (nU 0) 14) (fA 15)) (lA (nU 0) 15))) (.node (nU 0) (.node (nU 0) (.node (nU 0) (lA (nU 0) 14) (fA 15)) (lA (nU 0) 15)) (.node
  (nU 0) (.node (nU 0) (lA (nU 0) 14) (fA 15)) (lA (nU 0) 15))))) (.node (nU 0) (.node (nU 0) (.node (nU 0) (.node (nU 0) (.node (nU 0) (lA (nU 0) 14) (fA 15)) (lA (nU 0) 15)) (.node
  (nU 0) (.node (nU 0) (lA (nU 0) 14) (fA 15)) (lA (nU 0) 15))) (.node (nU 0) (.node (nU 0) (.node (nU 1280) (lA (nU 0) 14) (fA 15)) (lA (nU 0) 15)) (.node (nU 0) (.node (nU 0) (lA
  (nU 0) 14) (fA 15)) (lA (nU 0) 15)))) (.node (nU 0) (.node (nU 0) (.node (nU 0) (.node (nU 0) (lA (nU 0) 14) (fA 15)) (lA (nU 0) 15)) (.node (nU 0) (.node (nU 0) (lA (nU 0) 14) (fA
  15)) (lA (nU 0) 15))) (.node (nU 0) (.node (nU 0) (.node (nU 0) (lA (nU 0) 14) (fA 15)) (lA (nU 0) 15)) (.node (nU 0) (.node (nU 0) (lA (nU 0) 14) (fA 15)) (lA (nU 0) 15)))))))
  (.node (nU 0) (.node (nU 0) (.node (nU 0) (.node (nU 0) (.node (nU 0) (.node (nU 15) (.node (nU 7) (lA (nU 0) 14) (fA 15)) (lA (nU 0) 15)) (.node (nU 0) (.node (nU 2304) (lA (nU 0)
  14) (fA 15)) (lA (nU 0) 15))) (.node (nU 0) (.node (nU 52) (.node (nU 3) (lA (nU 0) 14) (fA 15)) (lA (nU 0) 15)) (.node (nU 0) (.node (nU 0) (lA (nU 0) 14) (fA 15)) (lA (nU 0)
  15)))) (.node (nU 0) (.node (nU 0) (.node (nU 50) (.node (nU 1088) (lA (nU 0) 14) (fA 15)) (lA (nU 0) 15)) (.node (nU 0) (.node (nU 0) (lA (nU 0) 14) (fA 15)) (lA (nU 0) 15)))
  (.node (nU 0) (.node (nU 0) (.node (nU 0) (lA (nU 0) 14) (fA 15)) (lA (nU 0) 15)) (.node (nU 0) (.node (nU 0) (lA (nU 0) 14) (fA 15)) (lA (nU 0) 15))))) (.node (nU 0) (.node (nU 0)
  (.node (nU 0) (.node (nU 49) (.node (nU 0) (lA (nU 0) 14) (fA 15)) (lA (nU 0) 15)) (.node (nU 0) (.node (nU 0) (lA (nU 0) 14) (fA 15)) (lA (nU 0) 15))) (.node (nU 0) (.node (nU 0)
  (.node (nU 1216) (lA (nU 0) 14) (fA 15)) (lA (nU 0) 15)) (.node (nU 0) (.node (nU 0) (lA (nU 0) 14) (fA 15)) (lA (nU 0) 15)))) (.node (nU 0) (.node (nU 0) (.node (nU 51) (.node (nU
  0) (lA (nU 0) 14) (fA 15)) (lA (nU 0) 15)) (.node (nU 0) (.node (nU 0) (lA (nU 0) 14) (fA 15)) (lA (nU 0) 15))) (.node (nU 0) (.node (nU 0) (.node (nU 0) (lA (nU 0) 14) (fA 15))
  (lA (nU 0) 15)) (.node (nU 0) (.node (nU 0) (lA (nU 0) 14) (fA 15)) (lA (nU 0) 15)))))) (.node (nU 0) (.node (nU 0) (.node (nU 0) (.node (nU 0) (.node (nU 0) (.node (nU 0) (lA (nU
  0) 14) (fA 15)) (lA (nU 0) 15)) (.node (nU 0) (.node (nU 0) (lA (nU 0) 14) (fA 15)) (lA (nU 0) 15))) (.node (nU 0) (.node (nU 0) (.node (nU 0) (lA (nU 0) 14) (fA 15)) (lA (nU 0)
  15)) (.node (nU 0) (.node (nU 0) (lA (nU 0) 14) (fA 15)) (lA (nU 0) 15)))) (.node (nU 0) (.node (nU 0) (.node (nU 0) (.node (nU 0) (lA (nU 0) 14) (fA 15)) (lA (nU 0) 15)) (.node
  (nU 0) (.node (nU 0) (lA (nU 0) 14) (fA 15)) (lA (nU 0) 15))) (.node (nU 0) (.node (nU 0) (.node (nU 0) (lA (nU 0) 14) (fA 15)) (lA (nU 0) 15)) (.node (nU 0) (.node (nU 0) (lA (nU
  0) 14) (fA 15)) (lA (nU 0) 15))))) (.node (nU 0) (.node (nU 0) (.node (nU 0) (.node (nU 0) (.node (nU 0) (lA (nU 0) 14) (fA 15)) (lA (nU 0) 15)) (.node (nU 0) (.node (nU 0) (lA (nU
  0) 14) (fA 15)) (lA (nU 0) 15))) (.node (nU 0) (.node (nU 0) (.node (nU 0) (lA (nU 0) 14) (fA 15)) (lA (nU 0) 15)) (.node (nU 0) (.node (nU 0) (lA (nU 0) 14) (fA 15)) (lA (nU 0)
  15)))) (.node (nU 0) (.node (nU 0) (.node (nU 0) (.node (nU 0) (lA (nU 0) 14) (fA 15)) (lA (nU 0) 15)) (.node (nU 0) (.node (nU 0) (lA (nU 0) 14) (fA 15)) (lA (nU 0) 15))) (.node
  (nU 0) (.node (nU 0) (.node (nU 0) (lA (nU 0) 14) (fA 15)) (lA (nU 0) 15)) (.node (nU 0) (.node (nU 0) (lA (nU 0) 14) (fA 15)) (lA (nU 0) 15)))))))) (.node (nU 2496) (.node (nU 0)
  (.node (nU 0) (.node (nU 0) (.node (nU 0) (.node (nU 0) (.node (nU 1) (.node (nU 3) (lA (nU 0) 14) (fA 15)) (lA (nU 0) 15)) (.node (nU 0) (.node (nU 3) (lA (nU 0) 14) (fA 15)) (lA
  (nU 0) 15))) (.node (nU 0) (.node (nU 1) (.node (nU 5495893775785918464) (lA (nU 0) 14) (fA 15)) (lA (nU 0) 15)) (.node (nU 0) (.node (nU 0) (lA (nU 0) 14) (fA 15)) (lA (nU 0)
  15)))) (.node (nU 0) (.node (nU 0) (.node (nU 1) (.node (nU 1) (lA (nU 0) 14) (fA 15)) (lA (nU 0) 15)) (.node (nU 0) (.node (nU 0) (lA (nU 0) 14) (fA 15)) (lA (nU 0) 15))) (.node
  (nU 0) (.node (nU 0) (.node (nU 0) (lA (nU 0) 14) (fA 15)) (lA (nU 0) 15)) (.node (nU 0) (.node (nU 0) (lA (nU 0) 14) (fA 15)) (lA (nU 0) 15))))) (.node (nU 0) (.node (nU 0) (.node
  (nU 0) (.node (nU 1) (.node (nU 5495893775785918464) (lA (nU 0) 14) (fA 15)) (lA (nU 0) 15)) (.node (nU 0) (.node (nU 0) (lA (nU 0) 14) (fA 15)) (lA (nU 0) 15))) (.node (nU 0)
  (.node (nU 0) (.node (nU 3) (lA (nU 0) 14) (fA 15)) (lA (nU 0) 15)) (.node (nU 0) (.node (nU 0) (lA (nU 0) 14) (fA 15)) (lA (nU 0) 15)))) (.node (nU 0) (.node (nU 0) (.node (nU 1)
  (.node (nU 0) (lA (nU 0) 14) (fA 15)) (lA (nU 0) 15)) (.node (nU 0) (.node (nU 0) (lA (nU 0) 14) (fA 15)) (lA (nU 0) 15))) (.node (nU 0) (.node (nU 0) (.node (nU
  5495893775785918465) (lA (nU 0) 14) (fA 15)) (lA (nU 0) 15)) (.node (nU 0) (.node (nU 0) (lA (nU 0) 14) (fA 15)) (lA (nU 0) 15)))))) (.node (nU 0) (.node (nU 0) (.node (nU 0)
  (.node (nU 0) (.node (nU 0) (.node (nU 0) (lA (nU 0) 14) (fA 15)) (lA (nU 0) 15)) (.node (nU 0) (.node (nU 0) (lA (nU 0) 14) (fA 15)) (lA (nU 0) 15))) (.node (nU 0) (.node (nU 0)
  (.node (nU 2304) (lA (nU 0) 14) (fA 15)) (lA (nU 0) 15)) (.node (nU 0) (.node (nU 0) (lA (nU 0) 14) (fA 15)) (lA (nU 0) 15)))) (.node (nU 0) (.node (nU 0) (.node (nU 0) (.node (nU
  0) (lA (nU 0) 14) (fA 15)) (lA (nU 0) 15)) (.node (nU 0) (.node (nU 0) (lA (nU 0) 14) (fA 15)) (lA (nU 0) 15))) (.node (nU 0) (.node (nU 0) (.node (nU 0) (lA (nU 0) 14) (fA 15))
  (lA (nU 0) 15)) (.node (nU 0) (.node (nU 0) (lA (nU 0) 14) (fA 15)) (lA (nU 0) 15))))) (.node (nU 0) (.node (nU 0) (.node (nU 0) (.node (nU 0) (.node (nU 2112) (lA (nU 0) 14) (fA
  15)) (lA (nU 0) 15)) (.node (nU 0) (.node (nU 0) (lA (nU 0) 14) (fA 15)) (lA (nU 0) 15))) (.node (nU 0) (.node (nU 0) (.node (nU 0) (lA (nU 0) 14) (fA 15)) (lA (nU 0) 15)) (.node
  (nU 0) (.node (nU 0) (lA (nU 0) 14) (fA 15)) (lA (nU 0) 15)))) (.node (nU 0) (.node (nU 0) (.node (nU 0) (.node (nU 0) (lA (nU 0) 14) (fA 15)) (lA (nU 0) 15)) (.node (nU 0) (.node
  (nU 0) (lA (nU 0) 14) (fA 15)) (lA (nU 0) 15))) (.node (nU 0) (.node (nU 0) (.node (nU 2112) (lA (nU 0) 14) (fA 15)) (lA (nU 0) 15)) (.node (nU 0) (.node (nU 0) (lA (nU 0) 14) (fA
  15)) (lA (nU 0) 15))))))) (.node (nU 0) (.node (nU 0) (.node (nU 0) (.node (nU 0) (.node (nU 0) (.node (nU 0) (.node (nU 0) (lA (nU 0) 14) (fA 15)) (lA (nU 0) 15)) (.node (nU 0)
  (.node (nU 0) (lA (nU 0) 14) (fA 15)) (lA (nU 0) 15))) (.node (nU 0) (.node (nU 0) (.node (nU 0) (lA (nU 0) 14) (fA 15)) (lA (nU 0) 15)) (.node (nU 0) (.node (nU 0) (lA (nU 0) 14)
  (fA 15)) (lA (nU 0) 15)))) (.node (nU 0) (.node (nU 0) (.node (nU 0) (.node (nU 2) (lA (nU 0) 14) (fA 15)) (lA (nU 0) 15)) (.node (nU 0) (.node (nU 0) (lA (nU 0) 14) (fA 15)) (lA
  (nU 0) 15))) (.node (nU 0) (.node (nU 0) (.node (nU 0) (lA (nU 0) 14) (fA 15)) (lA (nU 0) 15)) (.node (nU 0) (.node (nU 0) (lA (nU 0) 14) (fA 15)) (lA (nU 0) 15))))) (.node (nU 0)
  (.node (nU 0) (.node (nU 0) (.node (nU 0) (.node (nU 2304) (lA (nU 0) 14) (fA 15)) (lA (nU 0) 15)) (.node (nU 0) (.node (nU 0) (lA (nU 0) 14) (fA 15)) (lA (nU 0) 15))) (.node (nU
  0) (.node (nU 0) (.node (nU 4) (lA (nU 0) 14) (fA 15)) (lA (nU 0) 15)) (.node (nU 0) (.node (nU 0) (lA (nU 0) 14) (fA 15)) (lA (nU 0) 15)))) (.node (nU 0) (.node (nU 0) (.node (nU
  0) (.node (nU 0) (lA (nU 0) 14) (fA 15)) (lA (nU 0) 15)) (.node (nU 0) (.node (nU 0) (lA (nU 0) 14) (fA 15)) (lA (nU 0) 15))) (.node (nU 0) (.node (nU 0) (.node (nU 0) (lA (nU 0)
  14) (fA 15)) (lA (nU 0) 15)) (.node (nU 0) (.node (nU 0) (lA (nU 0) 14) (fA 15)) (lA (nU 0) 15)))))) (.node (nU 0) (.node (nU 0) (.node (nU 0) (.node (nU 0) (.node (nU 0) (.node
  (nU 0) (lA (nU 0) 14) (fA 15)) (lA (nU 0) 15)) (.node (nU 0) (.node (nU 0) (lA (nU 0) 14) (fA 15)) (lA (nU 0) 15))) (.node (nU 0) (.node (nU 0) (.node (nU 0) (lA (nU 0) 14) (fA
  15)) (lA (nU 0) 15)) (.node (nU 0) (.node (nU 0) (lA (nU 0) 14) (fA 15)) (lA (nU 0) 15)))) (.node (nU 0) (.node (nU 0) (.node (nU 0) (.node (nU 0) (lA (nU 0) 14) (fA 15)) (lA (nU
  0) 15)) (.node (nU 0) (.node (nU 0) (lA (nU 0) 14) (fA 15)) (lA (nU 0) 15))) (.node (nU 0) (.node (nU 0) (.node (nU 0) (lA (nU 0) 14) (fA 15)) (lA (nU 0) 15)) (.node (nU 0) (.node
  (nU 0) (lA (nU 0) 14) (fA 15)) (lA (nU 0) 15))))) (.node (nU 0) (.node (nU 0) (.node (nU 0) (.node (nU 0) (.node (nU 0) (lA (nU 0) 14) (fA 15)) (lA (nU 0) 15)) (.node (nU 0) (.node
  (nU 0) (lA (nU 0) 14) (fA 15)) (lA (nU 0) 15))) (.node (nU 0) (.node (nU 0) (.node (nU 0) (lA (nU 0) 14) (fA 15)) (lA (nU 0) 15)) (.node (nU 0) (.node (nU 0) (lA (nU 0) 14) (fA
  15)) (lA (nU 0) 15)))) (.node (nU 0) (.node (nU 0) (.node (nU 0) (.node (nU 0) (lA (nU 0) 14) (fA 15)) (lA (nU 0) 15)) (.node (nU 0) (.node (nU 0) (lA (nU 0) 14) (fA 15)) (lA (nU
  0) 15))) (.node (nU 0) (.node (nU 0) (.node (nU 0) (lA (nU 0) 14) (fA 15)) (lA (nU 0) 15)) (.node (nU 0) (.node (nU 0) (lA (nU 0) 14) (fA 15)) (lA (nU 0) 15))))))))) false false)
  12) (fD 13)) (fD 14))) (fD 16)) (fD 17))) (fD 19)) (.node .dead (.node .dead (fD 18) (.node .dead (.node .dead (.node .dead (fD 15) (.node .dead (.node .dead (lD (.cells 271 1 1
  (lA (.sl 2530 0 0 2 (.u 2530 0)) 23) true false) 12) (fD 13)) (fD 14))) (fD 16)) (fD 17))) (.node .dead (.node .dead (.node .dead (.node .dead (.node .dead (lD (.map [] 5) 13) (fD
  14)) (fD 15)) (fD 16)) (fD 17)) (fD 18)))) (.node .dead (.node .dead (fD 19) (.node .dead (.node .dead (fD 17) (.node .dead (.node .dead (fD 15) (.node .dead (fD 14) (.node .dead
  (lD (.cells 341 7 7 (.node (.ptr 1050 0) (.node (nI 0) (lA (nI 1) 21) (lA (.bool true) 21)) (.node (.sl 2900 0 0 1 (.u 2900 0)) (lA (.fn (.func 221) [(.ptr 2901 0)] []) 21) (lA (nI
  0) 21))) true false) 12) (fD 13)))) (fD 16))) (fD 18))) (.node .dead (.node .dead (.node .dead (.node .dead (.node .dead (.node .dead (fD 14) (.node .dead (lD (.map [] 1) 12) (fD
  13))) (fD 15)) (fD 16)) (fD 17)) (fD 18)) (.node .dead (.node .dead (.node .dead (fD 16) (.node .dead (fD 15) (.node .dead (.node .dead (lD (.cells 26 1 15 (.node (nU 1344) (.node
  (nU 1536) (.node (nU 1600) (lA (nU 1984) 20) (lA (nU 1280) 20)) (.node (nU 1792) (lA (nU 1856) 20) (lA (nU 1152) 20))) (.node (nU 1408) (.node (nU 1664) (lA (nU 1920) 20) (lA (nU
  1216) 20)) (.node (nU 1472) (lA (nU 1728) 20) (lA (nU 1088) 20)))) false false) 12) (fD 13)) (fD 14)))) (fD 17)) (fD 18)))))) (.node .dead (.node .dead (.node .dead (.node .dead
  (fD 19) (.node .dead (.node .dead (.node .dead (.node .dead (.node .dead (fD 14) (.node .dead (lD (.cells 99 3 3 (.node (nI 1) (lA (nU 3) 22) (lA (nU 2304) 22)) true false) 12) (fD
  13))) (fD 15)) (fD 16)) (fD 17)) (fD 18))) (.node .dead (.node .dead (fD 18) (.node .dead (.node .dead (.node .dead (fD 15) (.node .dead (.node .dead (lD (.cells 271 1 1 (lA .nilsl
  23) true false) 12) (fD 13)) (fD 14))) (fD 16)) (.node .dead (fD 16) (.node .dead (fD 15) (lD (.cells 25 1 4 (.node (nU 1) (.node (nU 2) (lA (nU 4) 21) (fA 22)) (lA (nU 3) 22))
  true false) 14))))) (fD 19))) (.node .dead (.node .dead (.node .dead (fD 18) (.node .dead (.node .dead (.node .dead (.node .dead (fD 14) (.node .dead (lD (.cells 380 78 78 (.node
  (.ptr 1050 0) (.node (nU 2304) (.node (.bool true) (.node (nU 0) (.node (nU 1280) (.node (nU 0) (lA (nU 4) 17) (fA 18)) (lA (nU 0) 18)) (.node (nU 0) (.node (nU 1280) (lA (nU 1280)
  17) (fA 18)) (lA (.bool true) 18))) (.node (nU 0) (.node (nU 0) (.node (nU 0) (lA (nU 0) 17) (fA 18)) (lA (nU 0) 18)) (.node (nU 0) (.node (nU 0) (lA (nU 0) 17) (fA 18)) (lA (nU 0)
  18)))) (.node (nU 3) (.node (nU 0) (.node (nU 0) (.node (nU 0) (lA (nU 0) 17) (fA 18)) (lA (nU 0) 18)) (.node (nU 0) (.node (nU 0) (lA (nU 0) 17) (fA 18)) (lA (nI 0) 18))) (.node
  (nU 1216) (.node (nU 0) (.node (nU 1216) (lA (nU 0) 17) (fA 18)) (lA (.bool false) 18)) (.node (nU 3) (.node (nU 0) (lA (nU 0) 17) (fA 18)) (lA (nU 2304) 18))))) (.node (.int .i64
  (.negSucc 0)) (.node (nU 5495893775785918464) (.node (nU 2304) (.node (nU 0) (.node (nU 2304) (lA (nU 0) 17) (fA 18)) (lA (nU 0) 18)) (.node (nU 0) (.node (nU 0) (lA (nU 0) 17) (fA
  18)) (lA (nI 0) 18))) (.node (nU 3) (.node (nU 0) (.node (nU 3) (lA (nU 0) 17) (fA 18)) (lA (nU 0) 18)) (.node (nU 5495893775785918464) (.node (nU 0) (lA (nU 0) 17) (fA 18)) (lA
  (nU 0) 18)))) (.node (nU 0) (.node (nU 0) (.node (nU 0) (.node (nU 0) (lA (nU 0) 17) (fA 18)) (lA (nU 0) 18)) (.node (nU 0) (.node (nU 0) (lA (nU 0) 17) (fA 18)) (lA (nU 3) 18)))
  (.node (nU 4) (.node (nU 0) (.node (nU 4) (lA (nU 1216) 17) (fA 18)) (lA (.fn (.func 360) [(.ptr 2596 0)] []) 18)) (.node (nU 0) (lA (nU 0) 18) (lA (nU 3) 18)))))) true false) 12)
  (fD 13))) (.node .dead (.node .dead (lD (.cells 198 7 7 (.node (nI 5120) (.node (.sl 2338 0 0 5 (.k 5)) (lA (.ptr 2343 0) 21) (lA (.ptr 2345 0) 21)) (.node (.ptr 2342 0) (lA (.ptr
  2344 0) 21) (lA (.map 2339) 21))) true false) 12) (fD 13)) (fD 14))) (fD 16)) (fD 17))) (.node .dead (.node .dead (.node .dead (.node .dead (.node .dead (fD 14) (.node .dead (lD
  (.cells 227 34 34 (.node (.ptr 2575 0) (.node (nI 0) (.node (nI 1) (.node (nU 0) (.node (nU 0) (lA (.fn (.func 209) [(.ptr 2580 0)] []) 18) (fA 19)) (lA (nU 0) 19)) (.node (nU 4)
  (lA (nU 1280) 19) (lA (.bool false) 19))) (.node (nI 0) (.node (nU 2304) (.node (nU 0) (lA (nI 5) 18) (fA 19)) (lA (nU 0) 19)) (.node (nU 0) (lA (nU 0) 19) (lA (nU 0) 19)))) (.node
  (nU 3) (.node (nU 2304) (.node (nU 0) (.node (nU 0) (lA (.bool true) 18) (fA 19)) (lA (nU 0) 19)) (.node (nU 0) (lA (nU 0) 19) (lA (nU 0) 19))) (.node (nU 3) (.node (nU 3) (lA (nU
  1216) 19) (lA (nU 0) 19)) (.node (nU 0) (lA (nU 0) 19) (lA (.ifc 218 (.ptr 2596 0)) 19))))) true false) 12) (fD 13))) (fD 15)) (fD 16)) (.node .dead (.node .dead (fD 15) (.node
  .dead (fD 14) (.node .dead (lD (.cells 297 2 2 (.node (nU 16) (lA (nU 2496) 22) (fA 23)) false false) 12) (fD 13)))) (fD 16))) (fD 18))) (fD 20))) (.node .dead (.node .dead (.node
  .dead (.node .dead (fD 18) (.node .dead (.node .dead (.node .dead (fD 15) (.node .dead (.node .dead (lD (.cells 205 2 10 (.node (nI 0) (.node (nU 0) (.node (nU 15) (lA (nU 0) 20)
  (fA 21)) (.node (nU 7) (lA (nU 0) 20) (fA 21))) (.node (nI 1) (.node (nI 3) (lA (nI 0) 20) (fA 21)) (lA (nI 0) 21))) true false) 12) (fD 13)) (fD 14))) (fD 16)) (.node .dead (.node
  .dead (fD 15) (.node .dead (fD 14) (.node .dead (lD (.cells 107 2 2 (.node .nilsl (lA (.bool false) 22) (fA 23)) true false) 12) (fD 13)))) (.node .dead (fD 15) (.node .dead (.node
  .dead (lD (.cells 26 1 5 (.node (nU 2688) (.node (nU 2880) (lA (nU 2304) 21) (fA 22)) (.node (nU 2496) (lA (nU 2112) 21) (fA 22))) false false) 12) (fD 13)) (fD 14)))))) (.node
  .dead (.node .dead (.node .dead (.node .dead (.node .dead (fD 14) (.node .dead (lD (.cells 28 3 3 (.node (nI 1) (lA (nU 3) 22) (lA (nU 2304) 22)) true false) 12) (fD 13))) (fD 15))
  (fD 16)) (fD 17)) (fD 18))) (.node .dead (fD 19) (.node .dead (.node .dead (.node .dead (.node .dead (.node .dead (lD (.cells 128 7 7 (.node (.sl 2337 0 0 640 (.u 2337 0)) (.node
  (.sl 2335 0 0 640 (.u 2335 0)) (lA (nU 70) 21) (lA (nU 6) 21)) (.node (.map 1049) (lA (nU 27) 21) (lA (nU 6) 21))) true false) 13) (fD 14)) (fD 15)) (fD 16)) (fD 17)) (fD 18))))
  (.node .dead (.node .dead (.node .dead (fD 18) (.node .dead (.node .dead (.node .dead (fD 15) (.node .dead (.node .dead (lD (.cells 271 1 1 (lA .nilsl 23) true false) 12) (fD 13))
  (fD 14))) (fD 16)) (fD 17))) (fD 19)) (.node .dead (.node .dead (.node .dead (.node .dead (.node .dead (.node .dead (fD 14) (.node .dead (lD (.cells 255 66 66 (.node (nI 1) (.node
  (.map 2573) (.node (nU 0) (.node (nU 0) (.node (nU 0) (.node (nU 0) (lA (nU 0) 17) (fA 18)) (lA (nU 0) 18)) (.node (nU 0) (lA (nU 0) 18) (lA (nU 0) 18))) (.node (nU 0) (.node (nU
  0) (lA (nU 0) 18) (lA (nU 0) 18)) (.node (nU 0) (lA (nU 0) 18) (lA (nU 0) 18)))) (.node (nU 0) (.node (nU 0) (.node (nU 0) (.node (nU 0) (lA (nU 0) 17) (fA 18)) (lA (nU 0) 18))
  (.node (nU 0) (lA (nU 0) 18) (lA (nU 0) 18))) (.node (nU 0) (.node (nU 0) (lA (nU 0) 18) (lA (nU 0) 18)) (.node (nU 0) (lA (nU 0) 18) (lA (nU 0) 18))))) (.node (nU 0) (.node (nU 0)
  (.node (nU 0) (.node (nU 0) (.node (nU 0) (lA (nU 0) 17) (fA 18)) (lA (nU 0) 18)) (.node (nU 0) (lA (nU 0) 18) (lA (nU 0) 18))) (.node (nU 0) (.node (nU 0) (lA (nU 0) 18) (lA (nU
  0) 18)) (.node (nU 0) (lA (nU 0) 18) (lA (nU 0) 18)))) (.node (nU 0) (.node (nU 0) (.node (nU 0) (lA (nU 0) 18) (lA (nU 0) 18)) (.node (nU 0) (lA (nU 0) 18) (lA (nU 0) 18))) (.node
  (nU 0) (.node (nU 0) (lA (nU 0) 18) (lA (nU 0) 18)) (.node (nU 0) (lA (nU 0) 18) (lA (nU 0) 18)))))) true false) 12) (fD 13))) (fD 15)) (fD 16)) (fD 17)) (fD 18)) (fD 19)))))),
  4156⟩,
  [.code (codeAt Tryz.f140 [1, 1, 0, 1, 0, 0, 1, 1, 1]), .lp (codeAt Tryz.f140 [1, 1, 0, 1, 0, 0]), .blk 0, .code (codeAt Tryz.f140 [1, 1, 1])]⟩
set_option maxRecDepth 1000000 in
theorem row7 (c : Fr) : cutR [1000, 1049, 1050, 2335, 2337, 2338, 2339, 2340, 2342, 2343, 2344, 2345, 2461, 2530, 2573, 2574, 2575, 2576, 2578, 2579, 2580, 2596, 2900, 2901, 2914, 2915, 4155] (iterN (stepF ctx) 9650 (k6 c)) = .inl (k7 c) := by kernel_rfl
end Go.Proofs.YtelipbpnplcofaaGreat.parentArgs
