/-
  PROVED HERE: a part of the run of the evaluator through the closed row, whoever calls it.
  Conditions: none.
-/
import Derived.KernelRfl
import Derived.Test.YtelipbpnplcofaaGreatParentArgsRow1
namespace Go.Proofs.YtelipbpnplcofaaGreat.parentArgs
open Go.Lev
/-- at the end of part 2 of the closed row -/
noncomputable def k2 (c : Fr) : St :=
  ⟨⟨147, 31, [], .normal, none,
  [⟨44, 53, [⟨(.coll 1054), []⟩], .normal, none, .run, (.node (.sl 1015 0 0 5120 (.k 5120)) (.node undefV (.node (nI 0) (.node undefV (lU (.sl 1015 0
  0 5120 (.k 5120)) 19) (fU 20)) (lU (.bool false) 20)) (.node undefV (lU (nI 5120) 20) (lU (.agg [.nilsl, .nilsl, (.map 1049), (nU 0), (nU 0), (nU 0), (nU 0)]) 20))) (.node .nil
  (.node (.ptr 1051 0) (.node (.sl 1015 0 0 5120 (.k 5120)) (lU (.fn (.func 147) [] [(.ptr 1052 0), (.ptr 1053 0)]) 19) (fU 20)) (lU (.map 1049) 20)) (.node undefV (lU (.bool true)
  20) (lU (.ptr 1050 0) 20)))), [.rf 1055, .blk 0, .code (codeAt Tryz.f44 [1, 1, 1, 1])]⟩,
    ⟨13, 37, [], .normal, none, .run, (.node (.sl 1015 0 0 5120 (.k 5120)) (lU (nI 1) 22)
  (.node undefV (.node .nil (fU 21) (lU (.sl 1015 0 0 5120 (.k 5120)) 20)) (fU 22))), [.reg (opsAt Tryz.f13 [1, 0]) ((opsAt Tryz.f13 [1, 0]).toList.drop 1), .code (codeAt Tryz.f13
  [1, 1])]⟩,
    ⟨37, 70, [], .normal, none, .run, (.node (.agg [(nI 4), (.sl 1000 0 0 4 (.k 4)), (nI 2), (nI 9), (nI 0), (nI 0)]) (.node (nI 1) (.node undefV (.node (nI 0) (.node
  (.bool false) (lU (.sl 1046 0 0 1 (.u 1046 0)) 18) (lU (nI 0) 18)) (.node (.sl 1046 0 0 1 (.u 1046 0)) (lU (.ptr 1001 5) 18) (fU 19))) (.node (.ptr 1001 0) (.node (nU 0) (lU (.sl
  1034 0 0 2 (.u 1034 0)) 18) (lU (.ptr 1016 0) 18)) (.node (nI 0) (lU (nI 2) 18) (fU 19)))) (.node (.ptr 1002 0) (.node (nI 1) (.node (.ptr 1001 4) (lU (.ptr 1046 0) 18) (lU (.ptr
  1016 0) 18)) (.node (nU 1) (lU (nU 0) 18) (fU 19))) (.node (.ptr 1016 0) (.node (.ptr 1016 0) (lU (.bool false) 18) (lU (nI 1) 18)) (.node (.ptr 1016 0) (lU (nU 1) 18) (fU 19)))))
  (.node (.ptr 1001 0) (.node .nil (.node (.sl 1034 0 0 2 (.u 1034 0)) (.node undefV (lU (nI 0) 18) (lU (nI 1) 18)) (.node (nI 1) (lU (nI 0) 18) (fU 19))) (.node (.agg [(nI 4), (.sl
  1000 0 0 4 (.k 4)), (nI 2), (nI 9)]) (.node (.ptr 1016 0) (lU (nI 2) 18) (lU (.sl 1015 0 0 5120 (.k 5120)) 18)) (.node (.ptr 1016 0) (lU (nI 1) 18) (fU 19)))) (.node (.ptr 1016 0)
  (.node undefV (.node (nI 0) (lU (.sl 1034 0 0 2 (.u 1034 0)) 18) (lU (.ptr 1016 0) 18)) (.node (nU 0) (lU (.sl 1034 0 0 2 (.u 1034 0)) 18) (fU 19))) (.node (.ptr 1016 0) (lU (.ptr
  1016 7) 19) (.node (.ptr 1016 7) (lU (nU 0) 18) (fU 19)))))), [.reg (opsAt Tryz.f37 [1, 1, 1, 1, 1, 1, 1, 0]) ((opsAt Tryz.f37 [1, 1, 1, 1, 1, 1, 1, 0]).toList.drop 5), .code
  (codeAt Tryz.f37 [1, 1, 1, 1, 1, 1, 1, 1])]⟩,
    ⟨11, 59, [], .normal, none, .run, (.node (.bool false) (.node undefV (.node undefV (fU 21) (lU (.agg [(nI 4), (.sl 1000 0 0 4 (.k
  4)), (nI 2), (nI 9), (nI 0), (nI 0)]) 20)) (.node undefV (lU (.sl 1000 0 0 4 (.k 4)) 20) (fU 21))) (.node undefV (fU 22) (.node undefV (lU (.agg [(nI 4), (.sl 1000 0 0 4 (.k 4)),
  (nI 2), (nI 9)]) 20) (fU 21)))), [.reg (opsAt Tryz.f11 [1, 0]) ((opsAt Tryz.f11 [1, 0]).toList.drop 3), .code (codeAt Tryz.f11 [1, 1])]⟩,
    c]⟩,
  .run,
  (.node (.yld 1055)
  (.node (.ptr 1052 0) (.node undefV (.node (.sl 1015 0 0 5120 (.k 5120)) (lU (nI 2896) 19) (lU (nI 8) 19)) (.node (nI 8) (lU (.yld 1055) 19) (lU (nI 2904) 19))) (.node (nI 8) (.node
  (.bool true) (lU (nI 2224) 19) (lU (nI 2896) 19)) (.node (nI 8) (lU (nI 2896) 19) (lU (.bool true) 19)))) (.node (.ptr 1053 0) (.node (nI 2896) (.node (nI 5120) (lU (.sl 1015 2896
  0 2224 (.k 2224)) 19) (lU (nI 2904) 19)) (.node (nI 2896) (lU (.sl 1015 0 0 5120 (.k 5120)) 19) (lU (.sl 1015 2896 0 8 (.k 8)) 19))) (.node (nI 2896) (.node (nI 2888) (lU (nI 8)
  19) (lU (nI 8) 19)) (.node (.sl 1015 0 0 5120 (.k 5120)) (lU (nI 2896) 19) (lU (.bool false) 19))))),
  ⟨(.node .dead (.node .dead (.node .dead (.node .dead (.node .dead (.node
  .dead (fD 18) (.node .dead (.node .dead (.node .dead (.node .dead (lD (.loop .ready none 44 (.node (.sl 1015 0 0 5120 (.k 5120)) (.node undefV (.node (nI 0) (.node undefV (lU (.sl
  1015 0 0 5120 (.k 5120)) 19) (fU 20)) (lU (.bool false) 20)) (.node undefV (lU (nI 5120) 20) (lU (.agg [.nilsl, .nilsl, (.map 1049), (nU 0), (nU 0), (nU 0), (nU 0)]) 20))) (.node
  .nil (.node (.ptr 1051 0) (.node (.sl 1015 0 0 5120 (.k 5120)) (lU (.fn (.func 147) [] [(.ptr 1052 0), (.ptr 1053 0)]) 19) (fU 20)) (lU (.map 1049) 20)) (.node undefV (lU (.bool
  true) 20) (lU (.ptr 1050 0) 20)))) 53 #[17] (codeAt Tryz.f44 [1, 1, 1, 0, 1, 0, 0]) (codeAt Tryz.f44 [1, 1, 1, 0, 1, 0, 1]) 1054) 13) (fD 14)) (fD 15)) (fD 16)) (fD 17))) (fD 19))
  (.node .dead (fD 19) (.node .dead (fD 18) (.node .dead (fD 17) (.node .dead (fD 16) (.node .dead (fD 15) (lD (.cells 5 1 5120 (.node (nB 70) (.node (nB 65) (.node (nB 84) (.node
  (nB 82) (.node (nB 0) (.node (nB 255) (.node (nB 0) (.node (nB 0) (.node (nB 0) (fB 15) (.node (nB 0) (lB (nB 0) 13) (fB 14))) (.node (nB 0) (.node (nB 0) (lB (nB 0) 13) (fB 14))
  (.node (nB 0) (lB (nB 0) 13) (fB 14)))) (.node (nB 0) (.node (nB 0) (fB 15) (.node (nB 0) (lB (nB 0) 13) (fB 14))) (.node (nB 0) (.node (nB 0) (lB (nB 0) 13) (fB 14)) (.node (nB 0)
  (lB (nB 0) 13) (fB 14))))) (.node (nB 0) (.node (nB 0) (.node (nB 0) (fB 15) (.node (nB 0) (lB (nB 0) 13) (fB 14))) (.node (nB 0) (.node (nB 0) (lB (nB 0) 13) (fB 14)) (.node (nB
  0) (lB (nB 0) 13) (fB 14)))) (.node (nB 0) (.node (nB 0) (.node (nB 0) (lB (nB 0) 13) (fB 14)) (.node (nB 0) (lB (nB 0) 13) (fB 14))) (.node (nB 0) (.node (nB 0) (lB (nB 0) 13) (fB
  14)) (fB 15))))) (.node (nB 0) (.node (nB 0) (.node (nB 0) (.node (nB 0) (.node (nB 0) (lB (nB 0) 13) (fB 14)) (.node (nB 0) (lB (nB 0) 13) (fB 14))) (.node (nB 0) (.node (nB 0)
  (lB (nB 0) 13) (fB 14)) (.node (nB 0) (lB (nB 0) 13) (fB 14)))) (.node (nB 0) (.node (nB 0) (.node (nB 0) (lB (nB 0) 13) (fB 14)) (.node (nB 0) (lB (nB 0) 13) (fB 14))) (.node (nB
  0) (.node (nB 0) (lB (nB 0) 13) (fB 14)) (fB 15)))) (.node (nB 0) (.node (nB 0) (.node (nB 0) (fB 15) (.node (nB 0) (lB (nB 0) 13) (fB 14))) (.node (nB 0) (.node (nB 0) (lB (nB 0)
  13) (fB 14)) (.node (nB 0) (lB (nB 0) 13) (fB 14)))) (.node (nB 0) (.node (nB 0) (.node (nB 0) (lB (nB 0) 13) (fB 14)) (.node (nB 0) (lB (nB 0) 13) (fB 14))) (.node (nB 0) (.node
  (nB 0) (lB (nB 0) 13) (fB 14)) (fB 15)))))) (.node (nB 0) (.node (nB 0) (.node (nB 0) (.node (nB 0) (.node (nB 0) (.node (nB 0) (lB (nB 0) 13) (fB 14)) (.node (nB 0) (.node (nB 0)
  (lB (nB 76) 12) (fB 13)) (fB 14))) (.node (nB 0) (.node (nB 0) (lB (nB 0) 13) (fB 14)) (.node (nB 0) (lB (nB 0) 13) (fB 14)))) (.node (nB 0) (.node (nB 0) (.node (nB 0) (.node (nB
  0) (lB (nB 76) 12) (fB 13)) (fB 14)) (.node (nB 0) (lB (nB 0) 13) (fB 14))) (.node (nB 0) (.node (nB 0) (lB (nB 0) 13) (fB 14)) (fB 15)))) (.node (nB 0) (.node (nB 0) (.node (nB 0)
  (fB 15) (.node (nB 0) (lB (nB 0) 13) (fB 14))) (.node (nB 0) (.node (nB 0) (lB (nB 0) 13) (fB 14)) (.node (nB 0) (lB (nB 0) 13) (fB 14)))) (.node (nB 0) (.node (nB 0) (.node (nB 0)
  (lB (nB 0) 13) (fB 14)) (.node (nB 0) (lB (nB 0) 13) (fB 14))) (.node (nB 0) (.node (nB 0) (lB (nB 0) 13) (fB 14)) (fB 15))))) (.node (nB 0) (.node (nB 0) (.node (nB 0) (.node (nB
  0) (fB 15) (.node (nB 0) (lB (nB 0) 13) (fB 14))) (.node (nB 0) (.node (nB 0) (lB (nB 0) 13) (fB 14)) (.node (nB 0) (lB (nB 0) 13) (fB 14)))) (.node (nB 0) (.node (nB 0) (.node (nB
  0) (lB (nB 0) 13) (fB 14)) (.node (nB 0) (lB (nB 0) 13) (fB 14))) (.node (nB 0) (.node (nB 0) (lB (nB 0) 13) (fB 14)) (fB 15)))) (.node (nB 0) (.node (nB 0) (.node (nB 0) (fB 15)
  (.node (nB 0) (lB (nB 0) 13) (fB 14))) (.node (nB 0) (.node (nB 0) (lB (nB 0) 13) (fB 14)) (.node (nB 0) (lB (nB 0) 13) (fB 14)))) (.node (nB 0) (.node (nB 0) (.node (nB 0) (lB (nB
  0) 13) (fB 14)) (.node (nB 0) (lB (nB 0) 13) (fB 14))) (.node (nB 0) (.node (nB 0) (lB (nB 0) 13) (fB 14)) (fB 15))))))) (.node (nB 0) (.node (nB 0) (.node (nB 0) (.node (nB 0)
  (.node (nB 0) (.node (nB 0) (.node (nB 0) (lB (nB 0) 13) (fB 14)) (.node (nB 0) (.node (nB 0) (lB (nB 69) 12) (fB 13)) (fB 14))) (.node (nB 0) (.node (nB 0) (lB (nB 0) 13) (fB 14))
  (.node (nB 0) (lB (nB 0) 13) (fB 14)))) (.node (nB 0) (.node (nB 0) (.node (nB 0) (.node (nB 0) (lB (nB 69) 12) (fB 13)) (fB 14)) (.node (nB 0) (lB (nB 0) 13) (fB 14))) (.node (nB
  0) (.node (nB 0) (lB (nB 0) 13) (fB 14)) (fB 15)))) (.node (nB 0) (.node (nB 0) (.node (nB 0) (fB 15) (.node (nB 0) (lB (nB 0) 13) (fB 14))) (.node (nB 0) (.node (nB 0) (lB (nB 0)
  13) (fB 14)) (.node (nB 0) (lB (nB 0) 13) (fB 14)))) (.node (nB 0) (.node (nB 0) (.node (nB 0) (lB (nB 0) 13) (fB 14)) (.node (nB 0) (lB (nB 0) 13) (fB 14))) (.node (nB 0) (.node
  (nB 0) (lB (nB 0) 13) (fB 14)) (fB 15))))) (.node (nB 0) (.node (nB 0) (.node (nB 0) (.node (nB 0) (fB 15) (.node (nB 0) (lB (nB 0) 13) (fB 14))) (.node (nB 0) (.node (nB 0) (lB
  (nB 0) 13) (fB 14)) (.node (nB 0) (lB (nB 0) 13) (fB 14)))) (.node (nB 0) (.node (nB 0) (.node (nB 0) (lB (nB 0) 13) (fB 14)) (.node (nB 0) (lB (nB 0) 13) (fB 14))) (.node (nB 0)
  (.node (nB 0) (lB (nB 0) 13) (fB 14)) (fB 15)))) (.node (nB 0) (.node (nB 0) (.node (nB 0) (fB 15) (.node (nB 0) (lB (nB 0) 13) (fB 14))) (.node (nB 0) (.node (nB 0) (lB (nB 0) 13)
  (fB 14)) (.node (nB 0) (lB (nB 0) 13) (fB 14)))) (.node (nB 0) (.node (nB 0) (.node (nB 0) (lB (nB 0) 13) (fB 14)) (.node (nB 0) (lB (nB 0) 13) (fB 14))) (.node (nB 0) (.node (nB
  0) (lB (nB 0) 13) (fB 14)) (fB 15)))))) (.node (nB 255) (.node (nB 0) (.node (nB 0) (.node (nB 0) (.node (nB 0) (.node (nB 0) (lB (nB 0) 13) (fB 14)) (.node (nB 0) (lB (nB 0) 13)
  (fB 14))) (.node (nB 0) (.node (nB 0) (lB (nB 0) 13) (fB 14)) (.node (nB 0) (lB (nB 0) 13) (fB 14)))) (.node (nB 0) (.node (nB 0) (.node (nB 0) (lB (nB 0) 13) (fB 14)) (.node (nB
  0) (lB (nB 0) 13) (fB 14))) (.node (nB 0) (.node (nB 0) (lB (nB 0) 13) (fB 14)) (fB 15)))) (.node (nB 0) (.node (nB 0) (.node (nB 0) (fB 15) (.node (nB 0) (lB (nB 0) 13) (fB 14)))
  (.node (nB 0) (.node (nB 0) (lB (nB 0) 13) (fB 14)) (.node (nB 0) (lB (nB 0) 13) (fB 14)))) (.node (nB 0) (.node (nB 0) (.node (nB 0) (lB (nB 0) 13) (fB 14)) (.node (nB 0) (lB (nB
  0) 13) (fB 14))) (.node (nB 0) (.node (nB 0) (lB (nB 0) 13) (fB 14)) (fB 15))))) (.node (nB 0) (.node (nB 0) (.node (nB 0) (.node (nB 0) (fB 15) (.node (nB 0) (lB (nB 0) 13) (fB
  14))) (.node (nB 0) (.node (nB 0) (lB (nB 0) 13) (fB 14)) (.node (nB 0) (lB (nB 0) 13) (fB 14)))) (.node (nB 0) (.node (nB 0) (.node (nB 0) (lB (nB 0) 13) (fB 14)) (.node (nB 0)
  (lB (nB 0) 13) (fB 14))) (.node (nB 0) (.node (nB 0) (lB (nB 0) 13) (fB 14)) (fB 15)))) (.node (nB 0) (.node (nB 0) (.node (nB 0) (fB 15) (.node (nB 0) (lB (nB 0) 13) (fB 14)))
  (.node (nB 0) (.node (nB 0) (lB (nB 0) 13) (fB 14)) (.node (nB 0) (lB (nB 0) 13) (fB 14)))) (.node (nB 0) (.node (nB 0) (.node (nB 0) (lB (nB 0) 13) (fB 14)) (.node (nB 0) (lB (nB
  0) 13) (fB 14))) (.node (nB 0) (.node (nB 0) (lB (nB 0) 13) (fB 14)) (fB 15)))))))) (.node (nB 65) (.node (nB 20) (.node (nB 8) (.node (nB 0) (.node (nB 0) (.node (nB 0) (.node (nB
  0) (.node (nB 0) (lB (nB 0) 13) (fB 14)) (.node (nB 0) (lB (nB 0) 13) (fB 14))) (.node (nB 0) (.node (nB 0) (lB (nB 0) 13) (fB 14)) (.node (nB 0) (lB (nB 0) 13) (fB 14)))) (.node
  (nB 0) (.node (nB 0) (.node (nB 0) (lB (nB 0) 13) (fB 14)) (.node (nB 0) (lB (nB 0) 13) (fB 14))) (.node (nB 0) (.node (nB 0) (lB (nB 0) 13) (fB 14)) (fB 15)))) (.node (nB 0)
  (.node (nB 0) (.node (nB 0) (fB 15) (.node (nB 0) (.node (nB 0) (lB (nB 9) 12) (fB 13)) (fB 14))) (.node (nB 0) (.node (nB 0) (lB (nB 0) 13) (fB 14)) (.node (nB 0) (lB (nB 0) 13)
  (fB 14)))) (.node (nB 0) (.node (nB 0) (.node (nB 0) (.node (nB 0) (lB (nB 8) 12) (fB 13)) (fB 14)) (.node (nB 0) (lB (nB 0) 13) (fB 14))) (.node (nB 0) (.node (nB 0) (lB (nB 0)
  13) (fB 14)) (fB 15))))) (.node (nB 0) (.node (nB 0) (.node (nB 0) (.node (nB 0) (fB 15) (.node (nB 0) (lB (nB 0) 13) (fB 14))) (.node (nB 0) (.node (nB 0) (lB (nB 0) 13) (fB 14))
  (.node (nB 0) (lB (nB 0) 13) (fB 14)))) (.node (nB 0) (.node (nB 0) (.node (nB 0) (.node (nB 0) (lB (nB 9) 12) (fB 13)) (fB 14)) (.node (nB 0) (lB (nB 0) 13) (fB 14))) (.node (nB
  0) (.node (nB 0) (lB (nB 0) 13) (fB 14)) (fB 15)))) (.node (nB 0) (.node (nB 0) (.node (nB 0) (fB 15) (.node (nB 0) (lB (nB 0) 13) (fB 14))) (.node (nB 0) (.node (nB 0) (lB (nB 0)
  13) (fB 14)) (.node (nB 0) (lB (nB 0) 13) (fB 14)))) (.node (nB 0) (.node (nB 0) (.node (nB 0) (lB (nB 0) 13) (fB 14)) (.node (nB 0) (lB (nB 0) 13) (fB 14))) (.node (nB 0) (.node
  (nB 0) (lB (nB 0) 13) (fB 14)) (fB 15)))))) (.node (nB 235) (.node (nB 0) (.node (nB 0) (.node (nB 0) (.node (nB 0) (.node (nB 0) (lB (nB 0) 13) (fB 14)) (.node (nB 0) (lB (nB 0)
  13) (fB 14))) (.node (nB 0) (.node (nB 0) (.node (nB 0) (lB (nB 4) 12) (fB 13)) (fB 14)) (.node (nB 0) (lB (nB 0) 13) (fB 14)))) (.node (nB 0) (.node (nB 0) (.node (nB 0) (lB (nB
  0) 13) (fB 14)) (.node (nB 0) (.node (nB 0) (lB (nB 4) 12) (fB 13)) (fB 14))) (.node (nB 0) (.node (nB 0) (lB (nB 0) 13) (fB 14)) (fB 15)))) (.node (nB 0) (.node (nB 0) (.node (nB
  0) (fB 15) (.node (nB 0) (lB (nB 0) 13) (fB 14))) (.node (nB 0) (.node (nB 0) (lB (nB 0) 13) (fB 14)) (.node (nB 0) (lB (nB 0) 13) (fB 14)))) (.node (nB 0) (.node (nB 0) (.node (nB
  0) (lB (nB 0) 13) (fB 14)) (.node (nB 0) (lB (nB 0) 13) (fB 14))) (.node (nB 0) (.node (nB 0) (lB (nB 0) 13) (fB 14)) (fB 15))))) (.node (nB 0) (.node (nB 0) (.node (nB 0) (.node
  (nB 0) (fB 15) (.node (nB 0) (lB (nB 0) 13) (fB 14))) (.node (nB 0) (.node (nB 0) (.node (nB 0) (lB (nB 4) 12) (fB 13)) (fB 14)) (.node (nB 0) (lB (nB 0) 13) (fB 14)))) (.node (nB
  0) (.node (nB 0) (.node (nB 0) (lB (nB 0) 13) (fB 14)) (.node (nB 0) (.node (nB 0) (lB (nB 5) 12) (fB 13)) (fB 14))) (.node (nB 0) (.node (nB 0) (lB (nB 0) 13) (fB 14)) (fB 15))))
  (.node (nB 0) (.node (nB 0) (.node (nB 0) (fB 15) (.node (nB 0) (lB (nB 0) 13) (fB 14))) (.node (nB 0) (.node (nB 0) (lB (nB 0) 13) (fB 14)) (.node (nB 0) (lB (nB 0) 13) (fB 14))))
  (.node (nB 0) (.node (nB 0) (.node (nB 0) (lB (nB 0) 13) (fB 14)) (.node (nB 0) (lB (nB 0) 13) (fB 14))) (.node (nB 0) (.node (nB 0) (lB (nB 0) 13) (fB 14)) (fB 15))))))) (.node
  (nB 0) (.node (nB 0) (.node (nB 0) (.node (nB 0) (.node (nB 0) (.node (nB 0) (.node (nB 0) (lB (nB 0) 13) (fB 14)) (.node (nB 0) (.node (nB 0) (lB (nB 86) 12) (fB 13)) (fB 14)))
  (.node (nB 0) (.node (nB 0) (lB (nB 0) 13) (fB 14)) (.node (nB 0) (lB (nB 0) 13) (fB 14)))) (.node (nB 0) (.node (nB 0) (.node (nB 0) (.node (nB 0) (lB (nB 86) 12) (fB 13)) (fB
  14)) (.node (nB 0) (lB (nB 0) 13) (fB 14))) (.node (nB 0) (.node (nB 0) (lB (nB 0) 13) (fB 14)) (fB 15)))) (.node (nB 0) (.node (nB 0) (.node (nB 0) (fB 15) (.node (nB 0) (lB (nB
  0) 13) (fB 14))) (.node (nB 0) (.node (nB 0) (lB (nB 0) 13) (fB 14)) (.node (nB 0) (lB (nB 0) 13) (fB 14)))) (.node (nB 0) (.node (nB 0) (.node (nB 0) (lB (nB 0) 13) (fB 14))
  (.node (nB 0) (lB (nB 0) 13) (fB 14))) (.node (nB 0) (.node (nB 0) (lB (nB 0) 13) (fB 14)) (fB 15))))) (.node (nB 0) (.node (nB 0) (.node (nB 0) (.node (nB 0) (fB 15) (.node (nB 0)
  (lB (nB 0) 13) (fB 14))) (.node (nB 0) (.node (nB 0) (lB (nB 0) 13) (fB 14)) (.node (nB 0) (lB (nB 0) 13) (fB 14)))) (.node (nB 0) (.node (nB 0) (.node (nB 0) (lB (nB 0) 13) (fB
  14)) (.node (nB 0) (lB (nB 0) 13) (fB 14))) (.node (nB 0) (.node (nB 0) (lB (nB 0) 13) (fB 14)) (fB 15)))) (.node (nB 0) (.node (nB 0) (.node (nB 0) (fB 15) (.node (nB 0) (lB (nB
  0) 13) (fB 14))) (.node (nB 0) (.node (nB 0) (lB (nB 0) 13) (fB 14)) (.node (nB 0) (lB (nB 0) 13) (fB 14)))) (.node (nB 0) (.node (nB 0) (.node (nB 0) (lB (nB 0) 13) (fB 14))
  (.node (nB 0) (lB (nB 0) 13) (fB 14))) (.node (nB 0) (.node (nB 0) (lB (nB 0) 13) (fB 14)) (fB 15)))))) (.node (nB 255) (.node (nB 0) (.node (nB 0) (.node (nB 0) (.node (nB 0)
  (.node (nB 0) (lB (nB 0) 13) (fB 14)) (.node (nB 0) (lB (nB 0) 13) (fB 14))) (.node (nB 0) (.node (nB 0) (lB (nB 0) 13) (fB 14)) (.node (nB 0) (lB (nB 0) 13) (fB 14)))) (.node (nB
  0) (.node (nB 0) (.node (nB 0) (lB (nB 0) 13) (fB 14)) (.node (nB 0) (lB (nB 0) 13) (fB 14))) (.node (nB 0) (.node (nB 0) (lB (nB 0) 13) (fB 14)) (fB 15)))) (.node (nB 0) (.node
  (nB 0) (.node (nB 0) (fB 15) (.node (nB 0) (lB (nB 0) 13) (fB 14))) (.node (nB 0) (.node (nB 0) (lB (nB 0) 13) (fB 14)) (.node (nB 0) (lB (nB 0) 13) (fB 14)))) (.node (nB 0) (.node
  (nB 0) (.node (nB 0) (lB (nB 0) 13) (fB 14)) (.node (nB 0) (lB (nB 0) 13) (fB 14))) (.node (nB 0) (.node (nB 0) (lB (nB 0) 13) (fB 14)) (fB 15))))) (.node (nB 0) (.node (nB 0)
  (.node (nB 0) (.node (nB 0) (fB 15) (.node (nB 0) (lB (nB 0) 13) (fB 14))) (.node (nB 0) (.node (nB 0) (lB (nB 0) 13) (fB 14)) (.node (nB 0) (lB (nB 0) 13) (fB 14)))) (.node (nB 0)
  (.node (nB 0) (.node (nB 0) (lB (nB 0) 13) (fB 14)) (.node (nB 0) (lB (nB 0) 13) (fB 14))) (.node (nB 0) (.node (nB 0) (lB (nB 0) 13) (fB 14)) (fB 15)))) (.node (nB 0) (.node (nB
  0) (.node (nB 0) (fB 15) (.node (nB 0) (lB (nB 0) 13) (fB 14))) (.node (nB 0) (.node (nB 0) (lB (nB 0) 13) (fB 14)) (.node (nB 0) (lB (nB 0) 13) (fB 14)))) (.node (nB 0) (.node (nB
  0) (.node (nB 0) (lB (nB 0) 13) (fB 14)) (.node (nB 0) (lB (nB 0) 13) (fB 14))) (.node (nB 0) (.node (nB 0) (lB (nB 0) 13) (fB 14)) (fB 15))))))))) (.node (nB 83) (.node (nB 70)
  (.node (nB 0) (.node (nB 64) (.node (nB 0) (.node (nB 0) (.node (nB 0) (.node (nB 0) (.node (nB 0) (.node (nB 1) (lB (nB 3) 12) (fB 13)) (fB 14)) (.node (nB 0) (lB (nB 1) 13) (fB
  14))) (.node (nB 0) (.node (nB 0) (.node (nB 1) (lB (nB 1) 12) (fB 13)) (fB 14)) (.node (nB 0) (lB (nB 0) 13) (fB 14)))) (.node (nB 0) (.node (nB 0) (.node (nB 0) (lB (nB 1) 13)
  (fB 14)) (.node (nB 0) (.node (nB 0) (lB (nB 3) 12) (fB 13)) (fB 14))) (.node (nB 0) (.node (nB 0) (lB (nB 1) 13) (fB 14)) (fB 15)))) (.node (nB 0) (.node (nB 0) (.node (nB 0) (fB
  15) (.node (nB 0) (lB (nB 0) 13) (fB 14))) (.node (nB 0) (.node (nB 0) (lB (nB 0) 13) (fB 14)) (.node (nB 0) (lB (nB 0) 13) (fB 14)))) (.node (nB 0) (.node (nB 0) (.node (nB 0)
  (.node (nB 0) (lB (nB 64) 12) (fB 13)) (fB 14)) (.node (nB 0) (lB (nB 0) 13) (fB 14))) (.node (nB 0) (.node (nB 0) (lB (nB 0) 13) (fB 14)) (fB 15))))) (.node (nB 0) (.node (nB 0)
  (.node (nB 0) (.node (nB 0) (fB 15) (.node (nB 0) (lB (nB 0) 13) (fB 14))) (.node (nB 0) (.node (nB 0) (.node (nB 0) (lB (nB 2) 12) (fB 13)) (fB 14)) (.node (nB 0) (lB (nB 0) 13)
  (fB 14)))) (.node (nB 0) (.node (nB 0) (.node (nB 0) (lB (nB 0) 13) (fB 14)) (.node (nB 0) (.node (nB 0) (lB (nB 4) 12) (fB 13)) (fB 14))) (.node (nB 0) (.node (nB 0) (lB (nB 0)
  13) (fB 14)) (fB 15)))) (.node (nB 0) (.node (nB 0) (.node (nB 0) (fB 15) (.node (nB 0) (lB (nB 0) 13) (fB 14))) (.node (nB 0) (.node (nB 0) (lB (nB 0) 13) (fB 14)) (.node (nB 0)
  (lB (nB 0) 13) (fB 14)))) (.node (nB 0) (.node (nB 0) (.node (nB 0) (lB (nB 0) 13) (fB 14)) (.node (nB 0) (lB (nB 0) 13) (fB 14))) (.node (nB 0) (.node (nB 0) (lB (nB 0) 13) (fB
  14)) (fB 15)))))) (.node (nB 255) (.node (nB 0) (.node (nB 0) (.node (nB 0) (.node (nB 0) (.node (nB 0) (.node (nB 15) (lB (nB 3) 12) (fB 13)) (fB 14)) (.node (nB 0) (.node (nB 52)
  (lB (nB 3) 12) (fB 13)) (fB 14))) (.node (nB 0) (.node (nB 0) (.node (nB 50) (lB (nB 64) 12) (fB 13)) (fB 14)) (.node (nB 0) (lB (nB 0) 13) (fB 14)))) (.node (nB 0) (.node (nB 0)
  (.node (nB 0) (lB (nB 49) 13) (fB 14)) (.node (nB 0) (.node (nB 0) (lB (nB 192) 12) (fB 13)) (fB 14))) (.node (nB 0) (.node (nB 0) (lB (nB 51) 13) (fB 14)) (fB 15)))) (.node (nB 0)
  (.node (nB 0) (.node (nB 0) (fB 15) (.node (nB 0) (lB (nB 0) 13) (fB 14))) (.node (nB 0) (.node (nB 0) (lB (nB 0) 13) (fB 14)) (.node (nB 0) (lB (nB 0) 13) (fB 14)))) (.node (nB 0)
  (.node (nB 0) (.node (nB 0) (lB (nB 0) 13) (fB 14)) (.node (nB 0) (lB (nB 0) 13) (fB 14))) (.node (nB 0) (.node (nB 0) (lB (nB 0) 13) (fB 14)) (fB 15))))) (.node (nB 0) (.node (nB
  0) (.node (nB 0) (.node (nB 0) (fB 15) (.node (nB 0) (lB (nB 0) 13) (fB 14))) (.node (nB 0) (.node (nB 0) (.node (nB 0) (lB (nB 128) 12) (fB 13)) (fB 14)) (.node (nB 0) (lB (nB 0)
  13) (fB 14)))) (.node (nB 0) (.node (nB 0) (.node (nB 0) (lB (nB 0) 13) (fB 14)) (.node (nB 0) (lB (nB 0) 13) (fB 14))) (.node (nB 0) (.node (nB 0) (lB (nB 0) 13) (fB 14)) (fB
  15)))) (.node (nB 0) (.node (nB 0) (.node (nB 0) (fB 15) (.node (nB 0) (lB (nB 0) 13) (fB 14))) (.node (nB 0) (.node (nB 0) (lB (nB 0) 13) (fB 14)) (.node (nB 0) (lB (nB 0) 13) (fB
  14)))) (.node (nB 0) (.node (nB 0) (.node (nB 0) (lB (nB 0) 13) (fB 14)) (.node (nB 0) (lB (nB 0) 13) (fB 14))) (.node (nB 0) (.node (nB 0) (lB (nB 0) 13) (fB 14)) (fB 15)))))))
  (.node (nB 0) (.node (nB 0) (.node (nB 0) (.node (nB 0) (.node (nB 0) (.node (nB 0) (.node (nB 0) (lB (nB 0) 13) (fB 14)) (.node (nB 0) (.node (nB 0) (lB (nB 69) 12) (fB 13)) (fB
  14))) (.node (nB 0) (.node (nB 0) (lB (nB 0) 13) (fB 14)) (.node (nB 0) (lB (nB 0) 13) (fB 14)))) (.node (nB 0) (.node (nB 0) (.node (nB 0) (.node (nB 0) (lB (nB 69) 12) (fB 13))
  (fB 14)) (.node (nB 0) (lB (nB 0) 13) (fB 14))) (.node (nB 0) (.node (nB 0) (lB (nB 0) 13) (fB 14)) (fB 15)))) (.node (nB 0) (.node (nB 0) (.node (nB 0) (fB 15) (.node (nB 0) (lB
  (nB 0) 13) (fB 14))) (.node (nB 0) (.node (nB 0) (lB (nB 0) 13) (fB 14)) (.node (nB 0) (lB (nB 0) 13) (fB 14)))) (.node (nB 0) (.node (nB 0) (.node (nB 0) (lB (nB 0) 13) (fB 14))
  (.node (nB 0) (lB (nB 0) 13) (fB 14))) (.node (nB 0) (.node (nB 0) (lB (nB 0) 13) (fB 14)) (fB 15))))) (.node (nB 0) (.node (nB 0) (.node (nB 0) (.node (nB 0) (fB 15) (.node (nB 0)
  (lB (nB 0) 13) (fB 14))) (.node (nB 0) (.node (nB 0) (lB (nB 0) 13) (fB 14)) (.node (nB 0) (lB (nB 0) 13) (fB 14)))) (.node (nB 0) (.node (nB 0) (.node (nB 0) (lB (nB 0) 13) (fB
  14)) (.node (nB 0) (lB (nB 0) 13) (fB 14))) (.node (nB 0) (.node (nB 0) (lB (nB 0) 13) (fB 14)) (fB 15)))) (.node (nB 0) (.node (nB 0) (.node (nB 0) (fB 15) (.node (nB 0) (lB (nB
  0) 13) (fB 14))) (.node (nB 0) (.node (nB 0) (lB (nB 0) 13) (fB 14)) (.node (nB 0) (lB (nB 0) 13) (fB 14)))) (.node (nB 0) (.node (nB 0) (.node (nB 0) (lB (nB 0) 13) (fB 14))
  (.node (nB 0) (lB (nB 0) 13) (fB 14))) (.node (nB 0) (.node (nB 0) (lB (nB 0) 13) (fB 14)) (fB 15)))))) (.node (nB 255) (.node (nB 0) (.node (nB 0) (.node (nB 0) (.node (nB 0)
  (.node (nB 0) (lB (nB 0) 13) (fB 14)) (.node (nB 0) (lB (nB 0) 13) (fB 14))) (.node (nB 0) (.node (nB 0) (lB (nB 0) 13) (fB 14)) (.node (nB 0) (lB (nB 0) 13) (fB 14)))) (.node (nB
  0) (.node (nB 0) (.node (nB 0) (lB (nB 0) 13) (fB 14)) (.node (nB 0) (lB (nB 0) 13) (fB 14))) (.node (nB 0) (.node (nB 0) (lB (nB 0) 13) (fB 14)) (fB 15)))) (.node (nB 0) (.node
  (nB 0) (.node (nB 0) (fB 15) (.node (nB 0) (lB (nB 0) 13) (fB 14))) (.node (nB 0) (.node (nB 0) (lB (nB 0) 13) (fB 14)) (.node (nB 0) (lB (nB 0) 13) (fB 14)))) (.node (nB 0) (.node
  (nB 0) (.node (nB 0) (lB (nB 0) 13) (fB 14)) (.node (nB 0) (lB (nB 0) 13) (fB 14))) (.node (nB 0) (.node (nB 0) (lB (nB 0) 13) (fB 14)) (fB 15))))) (.node (nB 0) (.node (nB 0)
  (.node (nB 0) (.node (nB 0) (fB 15) (.node (nB 0) (lB (nB 0) 13) (fB 14))) (.node (nB 0) (.node (nB 0) (lB (nB 0) 13) (fB 14)) (.node (nB 0) (lB (nB 0) 13) (fB 14)))) (.node (nB 0)
  (.node (nB 0) (.node (nB 0) (lB (nB 0) 13) (fB 14)) (.node (nB 0) (lB (nB 0) 13) (fB 14))) (.node (nB 0) (.node (nB 0) (lB (nB 0) 13) (fB 14)) (fB 15)))) (.node (nB 0) (.node (nB
  0) (.node (nB 0) (fB 15) (.node (nB 0) (lB (nB 0) 13) (fB 14))) (.node (nB 0) (.node (nB 0) (lB (nB 0) 13) (fB 14)) (.node (nB 0) (lB (nB 0) 13) (fB 14)))) (.node (nB 0) (.node (nB
  0) (.node (nB 0) (lB (nB 0) 13) (fB 14)) (.node (nB 0) (lB (nB 0) 13) (fB 14))) (.node (nB 0) (.node (nB 0) (lB (nB 0) 13) (fB 14)) (fB 15)))))))) (.node (nB 73) (.node (nB 0)
  (.node (nB 0) (.node (nB 0) (.node (nB 0) (.node (nB 0) (.node (nB 0) (.node (nB 0) (lB (nB 0) 13) (fB 14)) (.node (nB 0) (lB (nB 0) 13) (fB 14))) (.node (nB 0) (.node (nB 0) (lB
  (nB 0) 13) (fB 14)) (.node (nB 0) (lB (nB 0) 13) (fB 14)))) (.node (nB 0) (.node (nB 0) (.node (nB 0) (lB (nB 0) 13) (fB 14)) (.node (nB 0) (lB (nB 0) 13) (fB 14))) (.node (nB 0)
  (.node (nB 0) (lB (nB 0) 13) (fB 14)) (fB 15)))) (.node (nB 0) (.node (nB 0) (.node (nB 0) (fB 15) (.node (nB 0) (lB (nB 0) 13) (fB 14))) (.node (nB 0) (.node (nB 0) (lB (nB 0) 13)
  (fB 14)) (.node (nB 0) (lB (nB 0) 13) (fB 14)))) (.node (nB 0) (.node (nB 0) (.node (nB 0) (lB (nB 0) 13) (fB 14)) (.node (nB 0) (lB (nB 0) 13) (fB 14))) (.node (nB 0) (.node (nB
  0) (lB (nB 0) 13) (fB 14)) (fB 15))))) (.node (nB 0) (.node (nB 0) (.node (nB 0) (.node (nB 0) (fB 15) (.node (nB 0) (lB (nB 0) 13) (fB 14))) (.node (nB 0) (.node (nB 0) (lB (nB 0)
  13) (fB 14)) (.node (nB 0) (lB (nB 0) 13) (fB 14)))) (.node (nB 0) (.node (nB 0) (.node (nB 0) (lB (nB 0) 13) (fB 14)) (.node (nB 0) (lB (nB 0) 13) (fB 14))) (.node (nB 0) (.node
  (nB 0) (lB (nB 0) 13) (fB 14)) (fB 15)))) (.node (nB 0) (.node (nB 0) (.node (nB 0) (fB 15) (.node (nB 0) (lB (nB 0) 13) (fB 14))) (.node (nB 0) (.node (nB 0) (lB (nB 0) 13) (fB
  14)) (.node (nB 0) (lB (nB 0) 13) (fB 14)))) (.node (nB 0) (.node (nB 0) (.node (nB 0) (lB (nB 0) 13) (fB 14)) (.node (nB 0) (lB (nB 0) 13) (fB 14))) (.node (nB 0) (.node (nB 0)
  (lB (nB 0) 13) (fB 14)) (fB 15)))))) (.node (nB 255) (.node (nB 0) (.node (nB 0) (.node (nB 0) (.node (nB 0) (.node (nB 0) (lB (nB 0) 13) (fB 14)) (.node (nB 0) (lB (nB 0) 13) (fB
  14))) (.node (nB 0) (.node (nB 0) (lB (nB 0) 13) (fB 14)) (.node (nB 0) (lB (nB 0) 13) (fB 14)))) (.node (nB 0) (.node (nB 0) (.node (nB 0) (lB (nB 0) 13) (fB 14)) (.node (nB 0)
  (lB (nB 0) 13) (fB 14))) (.node (nB 0) (.node (nB 0) (lB (nB 0) 13) (fB 14)) (fB 15)))) (.node (nB 0) (.node (nB 0) (.node (nB 0) (fB 15) (.node (nB 0) (lB (nB 0) 13) (fB 14)))
  (.node (nB 0) (.node (nB 0) (lB (nB 0) 13) (fB 14)) (.node (nB 0) (lB (nB 0) 13) (fB 14)))) (.node (nB 0) (.node (nB 0) (.node (nB 0) (lB (nB 0) 13) (fB 14)) (.node (nB 0) (lB (nB
  0) 13) (fB 14))) (.node (nB 0) (.node (nB 0) (lB (nB 0) 13) (fB 14)) (fB 15))))) (.node (nB 0) (.node (nB 0) (.node (nB 0) (.node (nB 0) (fB 15) (.node (nB 0) (lB (nB 0) 13) (fB
  14))) (.node (nB 0) (.node (nB 0) (lB (nB 0) 13) (fB 14)) (.node (nB 0) (lB (nB 0) 13) (fB 14)))) (.node (nB 0) (.node (nB 0) (.node (nB 0) (lB (nB 0) 13) (fB 14)) (.node (nB 0)
  (lB (nB 0) 13) (fB 14))) (.node (nB 0) (.node (nB 0) (lB (nB 0) 13) (fB 14)) (fB 15)))) (.node (nB 0) (.node (nB 0) (.node (nB 0) (fB 15) (.node (nB 0) (lB (nB 0) 13) (fB 14)))
  (.node (nB 0) (.node (nB 0) (lB (nB 0) 13) (fB 14)) (.node (nB 0) (lB (nB 0) 13) (fB 14)))) (.node (nB 0) (.node (nB 0) (.node (nB 0) (lB (nB 0) 13) (fB 14)) (.node (nB 0) (lB (nB
  0) 13) (fB 14))) (.node (nB 0) (.node (nB 0) (lB (nB 0) 13) (fB 14)) (fB 15))))))) (.node (nB 0) (.node (nB 0) (.node (nB 0) (.node (nB 0) (.node (nB 0) (.node (nB 0) (.node (nB 0)
  (lB (nB 0) 13) (fB 14)) (.node (nB 0) (.node (nB 0) (lB (nB 69) 12) (fB 13)) (fB 14))) (.node (nB 0) (.node (nB 0) (lB (nB 0) 13) (fB 14)) (.node (nB 0) (lB (nB 0) 13) (fB 14))))
  (.node (nB 0) (.node (nB 0) (.node (nB 0) (.node (nB 0) (lB (nB 69) 12) (fB 13)) (fB 14)) (.node (nB 0) (lB (nB 0) 13) (fB 14))) (.node (nB 0) (.node (nB 0) (lB (nB 0) 13) (fB 14))
  (fB 15)))) (.node (nB 0) (.node (nB 0) (.node (nB 0) (fB 15) (.node (nB 0) (lB (nB 0) 13) (fB 14))) (.node (nB 0) (.node (nB 0) (lB (nB 0) 13) (fB 14)) (.node (nB 0) (lB (nB 0) 13)
  (fB 14)))) (.node (nB 0) (.node (nB 0) (.node (nB 0) (lB (nB 0) 13) (fB 14)) (.node (nB 0) (lB (nB 0) 13) (fB 14))) (.node (nB 0) (.node (nB 0) (lB (nB 0) 13) (fB 14)) (fB 15)))))
  (.node (nB 0) (.node (nB 0) (.node (nB 0) (.node (nB 0) (fB 15) (.node (nB 0) (lB (nB 0) 13) (fB 14))) (.node (nB 0) (.node (nB 0) (lB (nB 0) 13) (fB 14)) (.node (nB 0) (lB (nB 0)
  13) (fB 14)))) (.node (nB 0) (.node (nB 0) (.node (nB 0) (lB (nB 0) 13) (fB 14)) (.node (nB 0) (lB (nB 0) 13) (fB 14))) (.node (nB 0) (.node (nB 0) (lB (nB 0) 13) (fB 14)) (fB
  15)))) (.node (nB 0) (.node (nB 0) (.node (nB 0) (fB 15) (.node (nB 0) (lB (nB 0) 13) (fB 14))) (.node (nB 0) (.node (nB 0) (lB (nB 0) 13) (fB 14)) (.node (nB 0) (lB (nB 0) 13) (fB
  14)))) (.node (nB 0) (.node (nB 0) (.node (nB 0) (lB (nB 0) 13) (fB 14)) (.node (nB 0) (lB (nB 0) 13) (fB 14))) (.node (nB 0) (.node (nB 0) (lB (nB 0) 13) (fB 14)) (fB 15))))))
  (.node (nB 255) (.node (nB 0) (.node (nB 0) (.node (nB 0) (.node (nB 0) (.node (nB 0) (lB (nB 0) 13) (fB 14)) (.node (nB 0) (lB (nB 0) 13) (fB 14))) (.node (nB 0) (.node (nB 0) (lB
  (nB 0) 13) (fB 14)) (.node (nB 0) (lB (nB 0) 13) (fB 14)))) (.node (nB 0) (.node (nB 0) (.node (nB 0) (lB (nB 0) 13) (fB 14)) (.node (nB 0) (lB (nB 0) 13) (fB 14))) (.node (nB 0)
  (.node (nB 0) (lB (nB 0) 13) (fB 14)) (fB 15)))) (.node (nB 0) (.node (nB 0) (.node (nB 0) (fB 15) (.node (nB 0) (lB (nB 0) 13) (fB 14))) (.node (nB 0) (.node (nB 0) (lB (nB 0) 13)
  (fB 14)) (.node (nB 0) (lB (nB 0) 13) (fB 14)))) (.node (nB 0) (.node (nB 0) (.node (nB 0) (lB (nB 0) 13) (fB 14)) (.node (nB 0) (lB (nB 0) 13) (fB 14))) (.node (nB 0) (.node (nB
  0) (lB (nB 0) 13) (fB 14)) (fB 15))))) (.node (nB 0) (.node (nB 0) (.node (nB 0) (.node (nB 0) (fB 15) (.node (nB 0) (lB (nB 0) 13) (fB 14))) (.node (nB 0) (.node (nB 0) (lB (nB 0)
  13) (fB 14)) (.node (nB 0) (lB (nB 0) 13) (fB 14)))) (.node (nB 0) (.node (nB 0) (.node (nB 0) (lB (nB 0) 13) (fB 14)) (.node (nB 0) (lB (nB 0) 13) (fB 14))) (.node (nB 0) (.node
  (nB 0) (lB (nB 0) 13) (fB 14)) (fB 15)))) (.node (nB 0) (.node (nB 0) (.node (nB 0) (fB 15) (.node (nB 0) (lB (nB 0) 13) (fB 14))) (.node (nB 0) (.node (nB 0) (lB (nB 0) 13) (fB
  14)) (.node (nB 0) (lB (nB 0) 13) (fB 14)))) (.node (nB 0) (.node (nB 0) (.node (nB 0) (lB (nB 0) 13) (fB 14)) (.node (nB 0) (lB (nB 0) 13) (fB 14))) (.node (nB 0) (.node (nB 0)
  (lB (nB 0) 13) (fB 14)) (fB 15)))))))))) true false) 14))))))) (.node .dead (fD 20) (.node .dead (fD 19) (.node .dead (.node .dead (.node .dead (.node .dead (.node .dead (lD
  (.cells 53 1 1 (lA (.ptr 1050 0) 23) true false) 13) (fD 14)) (fD 15)) (fD 16)) (fD 17)) (fD 18))))) (.node .dead (.node .dead (fD 20) (.node .dead (.node .dead (fD 18) (.node
  .dead (fD 17) (.node .dead (fD 16) (.node .dead (fD 15) (lD (.cells 103 6 6 (.node (nI 4) (.node (.sl 1000 0 0 4 (.k 4)) (lA (nI 9) 21) (lA (nI 0) 21)) (.node (nI 2) (lA (nI 0) 21)
  (fA 22))) true false) 14))))) (.node .dead (.node .dead (.node .dead (.node .dead (.node .dead (lD (.map [] 0) 13) (fD 14)) (fD 15)) (fD 16)) (fD 17)) (fD 18)))) (.node .dead
  (.node .dead (fD 19) (.node .dead (fD 18) (.node .dead (fD 17) (.node .dead (fD 16) (.node .dead (.node .dead (fD 14) (lD (.cells 25 1 363 (.node (nU 5929342154728227142) (.node
  (nU 5120) (.node (nU 18446744073709546495) (.node (nU 0) (.node (nU 0) (.node (nU 0) (.node (nU 0) (.node (nU 0) (lA (nU 0) 15) (fA 16)) (.node (nU 0) (lA (nU 0) 15) (fA 16)))
  (.node (nU 0) (.node (nU 0) (lA (nU 0) 15) (fA 16)) (.node (nU 0) (lA (nU 0) 15) (fA 16)))) (.node (nU 0) (.node (nU 0) (.node (nU 0) (lA (nU 0) 15) (fA 16)) (.node (nU 0) (lA (nU
  0) 15) (fA 16))) (.node (nU 0) (.node (nU 0) (lA (nU 0) 15) (fA 16)) (lA (nU 0) 16)))) (.node (nU 0) (.node (nU 0) (.node (nU 0) (.node (nU 0) (lA (nU 0) 15) (fA 16)) (.node (nU 0)
  (lA (nU 0) 15) (fA 16))) (.node (nU 0) (.node (nU 0) (lA (nU 0) 15) (fA 16)) (.node (nU 0) (lA (nU 0) 15) (fA 16)))) (.node (nU 0) (.node (nU 0) (.node (nU 0) (lA (nU 0) 15) (fA
  16)) (.node (nU 0) (lA (nU 0) 15) (fA 16))) (.node (nU 0) (.node (nU 0) (lA (nU 0) 15) (fA 16)) (lA (nU 0) 16))))) (.node (nU 0) (.node (nU 0) (.node (nU 0) (.node (nU 0) (.node
  (nU 0) (lA (nU 0) 15) (fA 16)) (.node (nU 0) (lA (nU 0) 15) (fA 16))) (.node (nU 0) (.node (nU 0) (lA (nU 0) 15) (fA 16)) (.node (nU 0) (lA (nU 0) 15) (fA 16)))) (.node (nU 0)
  (.node (nU 0) (.node (nU 0) (lA (nU 1152) 15) (fA 16)) (.node (nU 0) (lA (nU 0) 15) (fA 16))) (.node (nU 0) (.node (nU 0) (lA (nU 0) 15) (fA 16)) (lA (nU 0) 16)))) (.node (nU 0)
  (.node (nU 0) (.node (nU 0) (.node (nU 0) (lA (nU 0) 15) (fA 16)) (.node (nU 0) (lA (nU 0) 15) (fA 16))) (.node (nU 0) (.node (nU 0) (lA (nU 1280) 15) (fA 16)) (lA (nU 0) 16)))
  (.node (nU 0) (.node (nU 0) (.node (nU 0) (lA (nU 0) 15) (fA 16)) (.node (nU 0) (lA (nU 0) 15) (fA 16))) (.node (nU 0) (.node (nU 0) (lA (nU 0) 15) (fA 16)) (lA (nU 0) 16))))))
  (.node (nU 0) (.node (nU 0) (.node (nU 0) (.node (nU 0) (.node (nU 0) (.node (nU 15) (lA (nU 3) 15) (fA 16)) (.node (nU 0) (lA (nU 0) 15) (fA 16))) (.node (nU 0) (.node (nU 52) (lA
  (nU 3) 15) (fA 16)) (.node (nU 0) (lA (nU 0) 15) (fA 16)))) (.node (nU 0) (.node (nU 0) (.node (nU 50) (lA (nU 1088) 15) (fA 16)) (.node (nU 0) (lA (nU 0) 15) (fA 16))) (.node (nU
  0) (.node (nU 0) (lA (nU 0) 15) (fA 16)) (lA (nU 0) 16)))) (.node (nU 0) (.node (nU 0) (.node (nU 0) (.node (nU 49) (lA (nU 0) 15) (fA 16)) (.node (nU 0) (lA (nU 0) 15) (fA 16)))
  (.node (nU 0) (.node (nU 0) (lA (nU 1216) 15) (fA 16)) (.node (nU 0) (lA (nU 0) 15) (fA 16)))) (.node (nU 0) (.node (nU 0) (.node (nU 51) (lA (nU 0) 15) (fA 16)) (.node (nU 0) (lA
  (nU 0) 15) (fA 16))) (.node (nU 0) (.node (nU 0) (lA (nU 0) 15) (fA 16)) (lA (nU 0) 16))))) (.node (nU 0) (.node (nU 0) (.node (nU 0) (.node (nU 0) (.node (nU 0) (lA (nU 0) 15) (fA
  16)) (.node (nU 0) (lA (nU 0) 15) (fA 16))) (.node (nU 0) (.node (nU 0) (lA (nU 0) 15) (fA 16)) (.node (nU 0) (lA (nU 0) 15) (fA 16)))) (.node (nU 0) (.node (nU 0) (.node (nU 0)
  (lA (nU 0) 15) (fA 16)) (.node (nU 0) (lA (nU 0) 15) (fA 16))) (.node (nU 0) (.node (nU 0) (lA (nU 0) 15) (fA 16)) (lA (nU 0) 16)))) (.node (nU 0) (.node (nU 0) (.node (nU 0)
  (.node (nU 0) (lA (nU 0) 15) (fA 16)) (.node (nU 0) (lA (nU 0) 15) (fA 16))) (.node (nU 0) (.node (nU 0) (lA (nU 0) 15) (fA 16)) (lA (nU 0) 16))) (.node (nU 0) (.node (nU 0) (.node
  (nU 0) (lA (nU 0) 15) (fA 16)) (.node (nU 0) (lA (nU 0) 15) (fA 16))) (.node (nU 0) (.node (nU 0) (lA (nU 0) 15) (fA 16)) (lA (nU 0) 16))))))) (.node (nU 2112) (.node (nU 0) (.node
  (nU 0) (.node (nU 0) (.node (nU 0) (.node (nU 0) (.node (nU 1) (lA (nU 3) 15) (fA 16)) (.node (nU 0) (lA (nU 0) 15) (fA 16))) (.node (nU 0) (.node (nU 1) (lA (nU
  5495893775785918464) 15) (fA 16)) (.node (nU 0) (lA (nU 0) 15) (fA 16)))) (.node (nU 0) (.node (nU 0) (.node (nU 1) (lA (nU 1) 15) (fA 16)) (.node (nU 0) (lA (nU 0) 15) (fA 16)))
  (.node (nU 0) (.node (nU 0) (lA (nU 0) 15) (fA 16)) (lA (nU 0) 16)))) (.node (nU 0) (.node (nU 0) (.node (nU 0) (.node (nU 1) (lA (nU 5495893775785918464) 15) (fA 16)) (.node (nU
  0) (lA (nU 0) 15) (fA 16))) (.node (nU 0) (.node (nU 0) (lA (nU 3) 15) (fA 16)) (.node (nU 0) (lA (nU 0) 15) (fA 16)))) (.node (nU 0) (.node (nU 0) (.node (nU 1) (lA (nU 0) 15) (fA
  16)) (.node (nU 0) (lA (nU 0) 15) (fA 16))) (.node (nU 0) (.node (nU 0) (lA (nU 0) 15) (fA 16)) (lA (nU 0) 16))))) (.node (nU 0) (.node (nU 0) (.node (nU 0) (.node (nU 0) (.node
  (nU 0) (lA (nU 0) 15) (fA 16)) (.node (nU 0) (lA (nU 0) 15) (fA 16))) (.node (nU 0) (.node (nU 0) (lA (nU 2304) 15) (fA 16)) (.node (nU 0) (lA (nU 0) 15) (fA 16)))) (.node (nU 0)
  (.node (nU 0) (.node (nU 0) (lA (nU 0) 15) (fA 16)) (.node (nU 0) (lA (nU 0) 15) (fA 16))) (.node (nU 0) (.node (nU 0) (lA (nU 0) 15) (fA 16)) (lA (nU 0) 16)))) (.node (nU 0)
  (.node (nU 0) (.node (nU 0) (.node (nU 0) (lA (nU 2112) 15) (fA 16)) (.node (nU 0) (lA (nU 0) 15) (fA 16))) (.node (nU 0) (.node (nU 0) (lA (nU 0) 15) (fA 16)) (lA (nU 0) 16)))
  (.node (nU 0) (.node (nU 0) (.node (nU 0) (lA (nU 0) 15) (fA 16)) (.node (nU 0) (lA (nU 0) 15) (fA 16))) (.node (nU 0) (.node (nU 0) (lA (nU 0) 15) (fA 16)) (lA (nU 0) 16))))))
  (.node (nU 0) (.node (nU 0) (.node (nU 0) (.node (nU 0) (.node (nU 0) (.node (nU 0) (lA (nU 0) 15) (fA 16)) (.node (nU 0) (lA (nU 0) 15) (fA 16))) (.node (nU 0) (.node (nU 0) (lA
  (nU 0) 15) (fA 16)) (.node (nU 0) (lA (nU 0) 15) (fA 16)))) (.node (nU 0) (.node (nU 0) (.node (nU 0) (lA (nU 2) 15) (fA 16)) (.node (nU 0) (lA (nU 0) 15) (fA 16))) (.node (nU 0)
  (.node (nU 0) (lA (nU 0) 15) (fA 16)) (lA (nU 0) 16)))) (.node (nU 0) (.node (nU 0) (.node (nU 0) (.node (nU 0) (lA (nU 2304) 15) (fA 16)) (.node (nU 0) (lA (nU 0) 15) (fA 16)))
  (.node (nU 0) (.node (nU 0) (lA (nU 4) 15) (fA 16)) (.node (nU 0) (lA (nU 0) 15) (fA 16)))) (.node (nU 0) (.node (nU 0) (.node (nU 0) (lA (nU 0) 15) (fA 16)) (.node (nU 0) (lA (nU
  0) 15) (fA 16))) (.node (nU 0) (.node (nU 0) (lA (nU 0) 15) (fA 16)) (lA (nU 0) 16))))) (.node (nU 0) (.node (nU 0) (.node (nU 0) (.node (nU 0) (.node (nU 0) (lA (nU 0) 15) (fA
  16)) (.node (nU 0) (lA (nU 0) 15) (fA 16))) (.node (nU 0) (.node (nU 0) (lA (nU 0) 15) (fA 16)) (.node (nU 0) (lA (nU 0) 15) (fA 16)))) (.node (nU 0) (.node (nU 0) (.node (nU 0)
  (lA (nU 0) 15) (fA 16)) (.node (nU 0) (lA (nU 0) 15) (fA 16))) (.node (nU 0) (.node (nU 0) (lA (nU 0) 15) (fA 16)) (lA (nU 0) 16)))) (.node (nU 0) (.node (nU 0) (.node (nU 0)
  (.node (nU 0) (lA (nU 0) 15) (fA 16)) (.node (nU 0) (lA (nU 0) 15) (fA 16))) (.node (nU 0) (.node (nU 0) (lA (nU 0) 15) (fA 16)) (lA (nU 0) 16))) (.node (nU 0) (.node (nU 0) (.node
  (nU 0) (lA (nU 0) 15) (fA 16)) (.node (nU 0) (lA (nU 0) 15) (fA 16))) (.node (nU 0) (.node (nU 0) (lA (nU 0) 15) (fA 16)) (lA (nU 0) 16)))))))) false false) 13)) (fD 15))))))
  (.node .dead (fD 19) (.node .dead (.node .dead (.node .dead (.node .dead (.node .dead (lD (.cells 3 1 1 (lA (nI 8) 23) true false) 13) (fD 14)) (fD 15)) (fD 16)) (fD 17)) (fD
  18)))))) (.node .dead (.node .dead (.node .dead (fD 20) (.node .dead (.node .dead (fD 18) (.node .dead (fD 17) (.node .dead (fD 16) (.node .dead (fD 15) (lD (.cells 25 1 4 (.node
  (nU 1) (.node (nU 2) (lA (nU 4) 21) (fA 22)) (lA (nU 3) 22)) true false) 14))))) (.node .dead (fD 18) (.node .dead (fD 17) (.node .dead (fD 16) (.node .dead (fD 15) (lD (.cells 50
  8 8 (.node (.sl 1015 0 0 5120 (.k 5120)) (.node (nI 4) (.node (nI 1) (lA (.sl 1046 0 0 1 (.u 1046 0)) 20) (fA 21)) (lA (nI 2) 21)) (.node (nI 2) (lA (nI 4) 21) (lA (nI 2) 21)))
  true false) 14))))))) (.node .dead (fD 20) (.node .dead (fD 19) (.node .dead (.node .dead (.node .dead (.node .dead (.node .dead (lD (.cells 47 1 1 (lA (.sl 1015 0 0 5120 (.k
  5120)) 23) true false) 13) (fD 14)) (fD 15)) (fD 16)) (fD 17)) (fD 18))))) (.node .dead (.node .dead (fD 20) (.node .dead (.node .dead (.node .dead (.node .dead (.node .dead (.node
  .dead (lD (.cells 176 22 44 (.node (nU 2112) (.node (nI 0) (.node (nU 2304) (.node (nU 2) (.node (nU 1152) (lA (nU 0) 18) (fA 19)) (.node (nI 0) (lA (nU 0) 18) (fA 19))) (.node (nU
  0) (.node (nU 0) (lA (nU 0) 18) (fA 19)) (.node (nU 2304) (lA (nU 0) 18) (fA 19)))) (.node (nU 2112) (.node (nU 0) (.node (nU 0) (lA (nU 0) 18) (fA 19)) (.node (nU 0) (lA (nU 0)
  18) (fA 19))) (.node (nU 0) (.node (nU 0) (lA (nU 1280) 18) (fA 19)) (lA (nU 4) 19)))) (.node (nU 0) (.node (nU 0) (.node (nU 0) (.node (nU 0) (lA (nU 0) 18) (fA 19)) (.node (nU 3)
  (lA (nU 0) 18) (fA 19))) (.node (nU 0) (.node (nU 0) (lA (nU 1216) 18) (fA 19)) (lA (nU 3) 19))) (.node (nU 1) (.node (nU 0) (.node (nU 0) (lA (nU 0) 18) (fA 19)) (.node (nU 0) (lA
  (nU 0) 18) (fA 19))) (.node (nU 1088) (.node (nU 2304) (lA (nU 0) 18) (fA 19)) (lA (nU 0) 19))))) false false) 13) (fD 14)) (fD 15)) (fD 16)) (fD 17)) (.node .dead (fD 17) (.node
  .dead (fD 16) (.node .dead (fD 15) (lD (.cells 99 3 3 (.node (nI 0) (lA (nU 0) 22) (lA (nU 0) 22)) true false) 14))))) (.node .dead (.node .dead (.node .dead (.node .dead (.node
  .dead (lD (.cells 128 7 7 (.node .nilsl (.node (.sl 1781 0 0 363 (.u 1781 0)) (lA (nU 0) 21) (lA (nU 0) 21)) (.node (.map 1049) (lA (nU 0) 21) (lA (nU 0) 21))) true false) 13) (fD
  14)) (fD 15)) (fD 16)) (fD 17)) (fD 18)))) (.node .dead (.node .dead (fD 19) (.node .dead (.node .dead (.node .dead (.node .dead (.node .dead (lD (.cells 170 1 1 (lA (.sl 1034 0 0
  2 (.u 1034 0)) 23) false false) 13) (fD 14)) (fD 15)) (fD 16)) (fD 17)) (fD 18))) (.node .dead (fD 19) (.node .dead (.node .dead (.node .dead (.node .dead (.node .dead (lD (.defd
  (some [])) 13) (fD 14)) (fD 15)) (fD 16)) (fD 17)) (fD 18))))))), 1782⟩,
  [.blk 1, .code (codeAt Tryz.f147 [1, 0, 0, 1, 1]), .lp (codeAt Tryz.f147 [1, 0, 0]), .blk 0]⟩
set_option maxRecDepth 1000000 in
theorem row2 (c : Fr) : cutR [1000, 1001, 1002, 1015, 1016, 1034, 1046, 1049, 1050, 1051, 1052, 1053, 1054, 1055, 1781] (iterN (stepF ctx) 15050 (k1 c)) = .inl (k2 c) := by kernel_rfl
end Go.Proofs.YtelipbpnplcofaaGreat.parentArgs
