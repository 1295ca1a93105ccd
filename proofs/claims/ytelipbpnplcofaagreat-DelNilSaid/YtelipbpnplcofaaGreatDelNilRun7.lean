/-
  PROVED HERE: parts of the run of the evaluator from the call of DelNil, by the kernel.
  Conditions: none.
-/
import Derived.KernelRfl
import Derived.Test.YtelipbpnplcofaaGreatDelNilRun6
namespace Go.Proofs.YtelipbpnplcofaaGreat.delNil
open Go.Lev
/-- where the run stands at the end of part 7 -/
noncomputable def s7 : St :=
  ⟨⟨140, 28, [], .normal, none,
  [⟨76, 11, [], .normal, none, .run, (.node (.ptr 901 0) (.node undefV (.node (.ptr 901 0) (lU (.ptr 901 0) 20) (fU 21)) (.node (.bool false) (lU (.sl
  1676 0 0 384 (.u 1676 0)) 20) (fU 21))) (.node .nilsl (.node (.bool true) (lU (.ptr 901 0) 20) (fU 21)) (lU (.ptr 901 0) 21))), [.reg (opsAt Tryz.f76 [1, 1, 0]) ((opsAt Tryz.f76
  [1, 1, 0]).toList.drop 4), .code (codeAt Tryz.f76 [1, 0, 1, 0, 1])]⟩,
    ⟨53, 9, [], .normal, none, .run, (.node (.ptr 901 0) (.node undefV (lU (.bool false) 21) (fU 22)) (.node
  .nilsl (lU (.ptr 901 0) 21) (fU 22))), [.reg (opsAt Tryz.f53 [1, 0]) ((opsAt Tryz.f53 [1, 0]).toList.drop 1), .code (codeAt Tryz.f53 [1, 1])]⟩,
    ⟨20, 58, [], .normal, none,
  .run, (.node (.bool false) (.node (.ptr 1866 0) (.node (.bool true) (.node undefV (lU (.tup [(.agg [(nI 0), (.str (bs [])), .nilsl]), (.bool true)]) 19) (fU 20)) (.node (.ptr 1866
  0) (lU (.ptr 1866 0) 19) (fU 20))) (.node (.bool true) (.node (.agg [(nI 2), (.sl 880 0 0 1 (.k 1)), (nI 4), (nI 0)]) (lU (.bool true) 19) (lU (.ptr 901 0) 19)) (.node (.tup [(.agg
  [(nI 0), (.str (bs [])), .nilsl]), (.bool true)]) (lU (.agg [(nI 5), (.str (bs [])), .nilsl]) 19) (fU 20)))) (.node (.ptr 2248 0) (.node (.ptr 2419 0) (.node (.sl 880 0 0 1 (.k 1))
  (lU (.agg [(nI 0), (.str (bs [])), .nilsl]) 19) (lU (.ptr 1866 0) 19)) (.node (.bool false) (lU (.tup [(.agg [(nI 5), (.str (bs [])), .nilsl]), (.bool true)]) 19) (fU 20))) (.node
  undefV (.node (.ptr 1866 0) (lU (.tup [(.agg [(nI 5), (.str (bs [])), .nilsl]), (.bool true)]) 19) (fU 20)) (.node (.ptr 1866 0) (lU (.bool true) 19) (fU 20))))), [.reg (opsAt
  Tryz.f20 [1, 1, 1, 1, 1, 0]) ((opsAt Tryz.f20 [1, 1, 1, 1, 1, 0]).toList.drop 2), .code (codeAt Tryz.f20 [1, 1, 1, 1, 1, 1])]⟩,
    ⟨5, 94, [], .normal, none, .run, (.node (.bool
  false) (.node .nil (.node (.bool true) (.node (.ptr 1 0) (.node (.tup [(.bool true), (nI 1)]) (.node (.ptr 873 0) (lU (.bool true) 17) (fU 18)) (.node (.bool true) (lU (.bool true)
  17) (fU 18))) (.node (nI 1) (.node (.tup [(.bool true), (nI 12)]) (lU (nI 1) 17) (fU 18)) (.node (.bool true) (lU (.agg [(nI 12), (.str (bs [])), .nilsl]) 17) (fU 18)))) (.node
  (.ptr 874 0) (.node (nI 1) (.node (.ptr 874 0) (lU (.bool true) 17) (fU 18)) (.node (.bool true) (lU (.bool true) 17) (fU 18))) (.node (.tup [(.bool true), (nI 1)]) (.node (nI 12)
  (lU (nI 7) 17) (fU 18)) (.node (.bool true) (lU (.bool true) 17) (fU 18))))) (.node (.bool true) (.node (nI 1) (.node (.tup [(.bool true), (nI 1)]) (.node (.bool false) (lU (.agg
  [(nI 1), (.str (bs [])), .nilsl]) 17) (fU 18)) (.node (.bool true) (lU (.bool true) 17) (fU 18))) (.node (.tup [(.bool true), (nI 1)]) (.node (.tup [(.bool true), (nI 12)]) (lU
  (.bool true) 17) (fU 18)) (.node (.bool true) (lU (.bool true) 17) (fU 18)))) (.node (.bool true) (.node (.tup [(.bool true), (nI 1)]) (.node (.agg [(nI 7), (.str (bs [])),
  .nilsl]) (lU (.bool true) 17) (fU 18)) (.node (nI 1) (lU (.bool true) 17) (fU 18))) (.node (nI 1) (.node (.bool true) (lU (.bool true) 17) (fU 18)) (lU (.bool true) 18))))) (.node
  (.ptr 0 0) (.node (nI 1) (.node (.bool true) (.node .nil (.node (.ptr 873 0) (lU .nil 17) (fU 18)) (.node (.bool true) (lU (.bool true) 17) (fU 18))) (.node (.ptr 1 0) (.node (.ptr
  874 0) (lU (.bool true) 17) (fU 18)) (.node (.bool true) (lU (nI 12) 17) (fU 18)))) (.node (nI 7) (.node (.tup [(.bool true), (nI 1)]) (.node (.ptr 874 0) (lU (.bool true) 17) (fU
  18)) (.node (.bool true) (lU (.bool true) 17) (fU 18))) (.node (.bool true) (.node (.bool true) (lU (.bool true) 17) (fU 18)) (lU (nI 1) 18)))) (.node (nI 1) (.node (.ptr 873 0)
  (.node (.bool true) (.node (.ptr 873 0) (lU (nI 1) 17) (fU 18)) (.node (.bool true) (lU (nI 12) 17) (fU 18))) (.node (.ptr 1 0) (.node (.bool true) (lU (.bool true) 17) (fU 18))
  (.node (.bool true) (lU (.bool true) 17) (fU 18)))) (.node (nI 12) (.node (.bool true) (.node (nI 7) (lU (.agg [(nI 1), (.str (bs [])), .nilsl]) 17) (fU 18)) (.node (.bool true)
  (lU (.ptr 874 0) 17) (fU 18))) (.node (.agg [(nI 2), .nilsl, (nI 4), (nI 0)]) (.node (nI 1) (lU (.bool true) 17) (fU 18)) (lU (.bool true) 18)))))), [.reg (opsAt Tryz.f5 [1, 1, 1,
  1, 1, 1, 1, 1, 1, 1, 1, 1, 0]) ((opsAt Tryz.f5 [1, 1, 1, 1, 1, 1, 1, 1, 1, 1, 1, 1, 0]).toList.drop 48), .code (codeAt Tryz.f5 [1, 1, 1, 1, 1, 1, 1, 1, 0, 1, 0, 1])]⟩]⟩,
  .run,
 
  (.node (.sl 1676 0 0 384 (.u 1676 0)) (.node undefV (.node (.sl 2420 0 0 2528 (.k 3072)) (.node (nI 384) (lU (nU 0) 19) (lU (nU 0) 19)) (.node (nI 384) (lU (nU 0) 19) (fU 20)))
  (.node (nU 0) (.node (.sl 2420 0 0 0 (.k 3072)) (lU (.bool false) 19) (lU (nI 8) 19)) (.node (.bool true) (lU (.sl 4948 0 0 1 (.k 1)) 19) (fU 20)))) (.node .nilsl (.node undefV
  (.node (nI 3072) (lU (nI 8) 19) (lU (nU 0) 19)) (.node (nI 316) (lU (nB 0) 19) (fU 20))) (.node (.sl 1676 0 0 384 (.u 1676 0)) (.node (.sl 1676 0 0 384 (.u 1676 0)) (lU (.sl 2420 0
  0 2527 (.k 3072)) 19) (lU (nI 316) 19)) (.node (.ptr 1676 315) (lU (.sl 2420 0 0 2528 (.k 3072)) 19) (fU 20))))),
  ⟨(.node (.cells 66 13 13 (.node .nil (.node (nI 0) (.node .nil
  (lA .nilfn 20) (lA (.str (bs [])) 20)) (.node (nU 0) (lA (nI 0) 20) (fA 21))) (.node (nU 0) (.node .nil (lA (.bool false) 20) (lA .nilsl 20)) (.node .nilif (lA (nI 0) 20) (fA
  21)))) true false) (.node (.cells 66 13 13 (.node .nil (.node (nI 0) (.node (.ptr 2 0) (lA (.fn (.func 51) [(.ptr 1 0)] []) 20) (lA (.str (bs [])) 20)) (.node (nU 0) (lA (nI 1) 20)
  (fA 21))) (.node (nU 1) (.node .nil (lA (.bool true) 20) (lA .nilsl 20)) (.node (.ifc 29 (.ptr 2 0)) (lA (nI 1) 20) (fA 21)))) true false) (.node .dead (.node .dead (.node .dead
  (.node .dead (fD 18) (.node .dead (.node .dead (.node .dead (fD 15) (lD (.cells 271 1 1 (lA .nilsl 23) true false) 14)) (fD 16)) (fD 17))) (.node .dead (.node .dead (.node .dead
  (fD 16) (.node .dead (.node .dead (fD 14) (lD (.cells 198 7 7 (.node (nI 3072) (.node (.sl 1677 0 0 3 (.k 3)) (lA (.ptr 1682 0) 21) (lA (.ptr 1684 0) 21)) (.node (.ptr 1681 0) (lA
  (.ptr 1683 0) 21) (lA (.map 1678) 21))) true false) 13)) (fD 15))) (.node .dead (.node .dead (fD 15) (lD (.cells 26 1 5 (.node (nU 1280) (.node (nU 1664) (lA (nU 1856) 21) (fA 22))
  (.node (nU 1472) (lA (nU 1088) 21) (fA 22))) false false) 14)) (fD 16))) (fD 18))) (.node .dead (.node .dead (fD 18) (.node .dead (fD 17) (.node .dead (.node .dead (fD 15) (lD
  (.map [] 0) 14)) (fD 16)))) (.node .dead (.node .dead (.node .dead (.node .dead (fD 15) (lD (.cells 25 1 384 (.node (nU 5929342154728227142) (.node (nU 3072) (.node (nU
  18446744073709548543) (.node (nU 0) (.node (nU 0) (.node (nU 0) (.node (nU 0) (.node (nU 0) (lA (nU 0) 15) (lA (nU 0) 15)) (.node (nU 0) (lA (nU 0) 15) (fA 16))) (.node (nU 0)
  (.node (nU 0) (lA (nU 0) 15) (fA 16)) (.node (nU 0) (lA (nU 0) 15) (fA 16)))) (.node (nU 0) (.node (nU 0) (.node (nU 0) (lA (nU 0) 15) (fA 16)) (.node (nU 0) (lA (nU 0) 15) (fA
  16))) (.node (nU 0) (.node (nU 0) (lA (nU 0) 15) (fA 16)) (.node (nU 0) (lA (nU 0) 15) (fA 16))))) (.node (nU 0) (.node (nU 0) (.node (nU 0) (.node (nU 0) (lA (nU 0) 15) (fA 16))
  (.node (nU 0) (lA (nU 0) 15) (fA 16))) (.node (nU 0) (.node (nU 0) (lA (nU 0) 15) (fA 16)) (.node (nU 0) (lA (nU 0) 15) (fA 16)))) (.node (nU 0) (.node (nU 0) (.node (nU 0) (lA (nU
  0) 15) (fA 16)) (.node (nU 0) (lA (nU 0) 15) (fA 16))) (.node (nU 0) (.node (nU 0) (lA (nU 0) 15) (fA 16)) (.node (nU 0) (lA (nU 0) 15) (fA 16)))))) (.node (nU 0) (.node (nU 0)
  (.node (nU 0) (.node (nU 0) (.node (nU 0) (lA (nU 0) 15) (fA 16)) (.node (nU 0) (lA (nU 0) 15) (fA 16))) (.node (nU 0) (.node (nU 0) (lA (nU 0) 15) (fA 16)) (.node (nU 0) (lA (nU
  0) 15) (fA 16)))) (.node (nU 0) (.node (nU 0) (.node (nU 0) (lA (nU 0) 15) (fA 16)) (.node (nU 0) (lA (nU 0) 15) (fA 16))) (.node (nU 0) (.node (nU 0) (lA (nU 0) 15) (fA 16))
  (.node (nU 0) (lA (nU 0) 15) (fA 16))))) (.node (nU 0) (.node (nU 0) (.node (nU 0) (.node (nU 0) (lA (nU 0) 15) (fA 16)) (.node (nU 0) (lA (nU 0) 15) (fA 16))) (.node (nU 0) (.node
  (nU 0) (lA (nU 0) 15) (fA 16)) (.node (nU 0) (lA (nU 0) 15) (fA 16)))) (.node (nU 0) (.node (nU 0) (.node (nU 0) (lA (nU 0) 15) (fA 16)) (.node (nU 0) (lA (nU 0) 15) (fA 16)))
  (.node (nU 0) (.node (nU 0) (lA (nU 0) 15) (fA 16)) (.node (nU 0) (lA (nU 0) 15) (fA 16))))))) (.node (nU 0) (.node (nU 0) (.node (nU 0) (.node (nU 0) (.node (nU 0) (.node (nU 1)
  (lA (nU 0) 15) (fA 16)) (.node (nU 0) (lA (nU 0) 15) (fA 16))) (.node (nU 0) (.node (nU 0) (lA (nU 0) 15) (fA 16)) (.node (nU 0) (lA (nU 0) 15) (fA 16)))) (.node (nU 0) (.node (nU
  0) (.node (nU 0) (lA (nU 0) 15) (fA 16)) (.node (nU 0) (lA (nU 0) 15) (fA 16))) (.node (nU 0) (.node (nU 0) (lA (nU 0) 15) (fA 16)) (.node (nU 0) (lA (nU 0) 15) (fA 16))))) (.node
  (nU 0) (.node (nU 0) (.node (nU 0) (.node (nU 0) (lA (nU 0) 15) (fA 16)) (.node (nU 0) (lA (nU 0) 15) (fA 16))) (.node (nU 0) (.node (nU 0) (lA (nU 0) 15) (fA 16)) (.node (nU 0)
  (lA (nU 0) 15) (fA 16)))) (.node (nU 0) (.node (nU 0) (.node (nU 0) (lA (nU 0) 15) (fA 16)) (.node (nU 0) (lA (nU 0) 15) (fA 16))) (.node (nU 0) (.node (nU 0) (lA (nU 0) 15) (fA
  16)) (.node (nU 0) (lA (nU 0) 15) (fA 16)))))) (.node (nU 0) (.node (nU 0) (.node (nU 0) (.node (nU 0) (.node (nU 0) (lA (nU 0) 15) (fA 16)) (.node (nU 0) (lA (nU 0) 15) (fA 16)))
  (.node (nU 0) (.node (nU 0) (lA (nU 0) 15) (fA 16)) (.node (nU 0) (lA (nU 0) 15) (fA 16)))) (.node (nU 0) (.node (nU 0) (.node (nU 0) (lA (nU 0) 15) (fA 16)) (.node (nU 0) (lA (nU
  0) 15) (fA 16))) (.node (nU 0) (.node (nU 0) (lA (nU 0) 15) (fA 16)) (.node (nU 0) (lA (nU 0) 15) (fA 16))))) (.node (nU 0) (.node (nU 0) (.node (nU 0) (.node (nU 0) (lA (nU 0) 15)
  (fA 16)) (.node (nU 0) (lA (nU 0) 15) (fA 16))) (.node (nU 0) (.node (nU 0) (lA (nU 0) 15) (fA 16)) (.node (nU 0) (lA (nU 0) 15) (fA 16)))) (.node (nU 0) (.node (nU 0) (.node (nU
  0) (lA (nU 0) 15) (fA 16)) (.node (nU 0) (lA (nU 0) 15) (fA 16))) (.node (nU 0) (.node (nU 0) (lA (nU 0) 15) (fA 16)) (.node (nU 0) (lA (nU 0) 15) (fA 16)))))))) (.node (nU 1088)
  (.node (nU 0) (.node (nU 0) (.node (nU 0) (.node (nU 0) (.node (nU 0) (.node (nU 3) (lA (nU 0) 15) (fA 16)) (.node (nU 0) (lA (nU 0) 15) (fA 16))) (.node (nU 0) (.node (nU 0) (lA
  (nU 0) 15) (fA 16)) (.node (nU 0) (lA (nU 0) 15) (fA 16)))) (.node (nU 0) (.node (nU 0) (.node (nU 0) (lA (nU 0) 15) (fA 16)) (.node (nU 0) (lA (nU 0) 15) (fA 16))) (.node (nU 0)
  (.node (nU 0) (lA (nU 0) 15) (fA 16)) (.node (nU 0) (lA (nU 0) 15) (fA 16))))) (.node (nU 0) (.node (nU 0) (.node (nU 0) (.node (nU 5495893775785918464) (lA (nU 0) 15) (fA 16))
  (.node (nU 0) (lA (nU 0) 15) (fA 16))) (.node (nU 0) (.node (nU 0) (lA (nU 0) 15) (fA 16)) (.node (nU 0) (lA (nU 0) 15) (fA 16)))) (.node (nU 0) (.node (nU 0) (.node (nU 0) (lA (nU
  0) 15) (fA 16)) (.node (nU 0) (lA (nU 0) 15) (fA 16))) (.node (nU 0) (.node (nU 0) (lA (nU 0) 15) (fA 16)) (.node (nU 0) (lA (nU 0) 15) (fA 16)))))) (.node (nU 0) (.node (nU 0)
  (.node (nU 0) (.node (nU 0) (.node (nU 0) (lA (nU 0) 15) (fA 16)) (.node (nU 0) (lA (nU 0) 15) (fA 16))) (.node (nU 0) (.node (nU 0) (lA (nU 0) 15) (fA 16)) (.node (nU 0) (lA (nU
  0) 15) (fA 16)))) (.node (nU 0) (.node (nU 0) (.node (nU 0) (lA (nU 0) 15) (fA 16)) (.node (nU 0) (lA (nU 0) 15) (fA 16))) (.node (nU 0) (.node (nU 0) (lA (nU 0) 15) (fA 16))
  (.node (nU 0) (lA (nU 0) 15) (fA 16))))) (.node (nU 0) (.node (nU 0) (.node (nU 0) (.node (nU 1088) (lA (nU 0) 15) (fA 16)) (.node (nU 0) (lA (nU 0) 15) (fA 16))) (.node (nU 0)
  (.node (nU 0) (lA (nU 0) 15) (fA 16)) (.node (nU 0) (lA (nU 0) 15) (fA 16)))) (.node (nU 0) (.node (nU 0) (.node (nU 0) (lA (nU 0) 15) (fA 16)) (.node (nU 0) (lA (nU 0) 15) (fA
  16))) (.node (nU 0) (.node (nU 0) (lA (nU 0) 15) (fA 16)) (.node (nU 0) (lA (nU 0) 15) (fA 16))))))) (.node (nU 0) (.node (nU 0) (.node (nU 0) (.node (nU 0) (.node (nU 0) (.node
  (nU 0) (lA (nU 0) 15) (fA 16)) (.node (nU 0) (lA (nU 0) 15) (fA 16))) (.node (nU 0) (.node (nU 0) (lA (nU 0) 15) (fA 16)) (.node (nU 0) (lA (nU 0) 15) (fA 16)))) (.node (nU 0)
  (.node (nU 0) (.node (nU 0) (lA (nU 0) 15) (fA 16)) (.node (nU 0) (lA (nU 0) 15) (fA 16))) (.node (nU 0) (.node (nU 0) (lA (nU 0) 15) (fA 16)) (.node (nU 0) (lA (nU 0) 15) (fA
  16))))) (.node (nU 0) (.node (nU 0) (.node (nU 0) (.node (nU 0) (lA (nU 0) 15) (fA 16)) (.node (nU 0) (lA (nU 0) 15) (fA 16))) (.node (nU 0) (.node (nU 0) (lA (nU 0) 15) (fA 16))
  (.node (nU 0) (lA (nU 0) 15) (fA 16)))) (.node (nU 0) (.node (nU 0) (.node (nU 0) (lA (nU 0) 15) (fA 16)) (.node (nU 0) (lA (nU 0) 15) (fA 16))) (.node (nU 0) (.node (nU 0) (lA (nU
  0) 15) (fA 16)) (.node (nU 0) (lA (nU 0) 15) (fA 16)))))) (.node (nU 0) (.node (nU 0) (.node (nU 0) (.node (nU 0) (.node (nU 0) (lA (nU 0) 15) (fA 16)) (.node (nU 0) (lA (nU 0) 15)
  (fA 16))) (.node (nU 0) (.node (nU 0) (lA (nU 0) 15) (fA 16)) (.node (nU 0) (lA (nU 0) 15) (fA 16)))) (.node (nU 0) (.node (nU 0) (.node (nU 0) (lA (nU 0) 15) (fA 16)) (.node (nU
  0) (lA (nU 0) 15) (fA 16))) (.node (nU 0) (.node (nU 0) (lA (nU 0) 15) (fA 16)) (.node (nU 0) (lA (nU 0) 15) (fA 16))))) (.node (nU 0) (.node (nU 0) (.node (nU 0) (.node (nU 0) (lA
  (nU 0) 15) (fA 16)) (.node (nU 0) (lA (nU 0) 15) (fA 16))) (.node (nU 0) (.node (nU 0) (lA (nU 0) 15) (fA 16)) (.node (nU 0) (lA (nU 0) 15) (fA 16)))) (.node (nU 0) (.node (nU 0)
  (.node (nU 0) (lA (nU 0) 15) (fA 16)) (.node (nU 0) (lA (nU 0) 15) (fA 16))) (.node (nU 0) (.node (nU 0) (lA (nU 0) 15) (fA 16)) (.node (nU 0) (lA (nU 0) 15) (fA 16))))))))) false
  false) 14)) (fD 16)) (fD 17)) (fD 18)))) (.node .dead (.node .dead (fD 19) (.node .dead (.node .dead (.node .dead (fD 16) (.node .dead (.node .dead (fD 14) (lD (.cells 271 1 1 (lA
  .nilsl 23) true false) 13)) (fD 15))) (fD 17)) (.node .dead (fD 17) (.node .dead (.node .dead (fD 15) (.node .dead (.node .dead (lD (.cells 64 3 3 (.node (nI 5) (lA (.str (bs []))
  22) (lA .nilsl 22)) true false) 12) (fD 13)) (fD 14))) (fD 16))))) (.node .dead (.node .dead (fD 18) (.node .dead (fD 17) (.node .dead (.node .dead (fD 15) (lD (.cells 227 34 34
  (.node (.ptr 873 0) (.node (nI 1) (.node (nI 0) (.node (nU 0) (.node (nU 0) (lA (.fn (.func 102) [(.ptr 875 0)] []) 18) (fA 19)) (lA (nU 0) 19)) (.node (nU 0) (lA (nU 0) 19) (lA
  (.bool false) 19))) (.node (nI 0) (.node (nU 0) (.node (nU 0) (lA (nI 0) 18) (fA 19)) (lA (nU 0) 19)) (.node (nU 0) (lA (nU 0) 19) (lA (nU 0) 19)))) (.node (nU 1) (.node (nU 0)
  (.node (nU 0) (.node (nU 0) (lA (.bool false) 18) (fA 19)) (lA (nU 0) 19)) (.node (nU 0) (lA (nU 0) 19) (lA (nU 0) 19))) (.node (nU 0) (.node (nU 0) (lA (nU 0) 19) (lA (nU 0) 19))
  (.node (nU 0) (lA (nU 0) 19) (lA .nilif 19))))) true false) 14)) (fD 16)))) (.node .dead (.node .dead (.node .dead (.node .dead (fD 15) (lD (.map [⟨(nU 1088), (nI 2), 0⟩] 1) 14))
  (fD 16)) (fD 17)) (fD 18))))) (.node .dead (.node .dead (.node (.map [] 0) (.node .dead (fD 18) (.node .dead (.node .dead (.node .dead (fD 15) (lD (.cells 271 1 1 (lA (.sl 847 0 0
  4 (.u 847 0)) 23) true false) 14)) (fD 16)) (fD 17))) (.node .dead (.node .dead (.node .dead (fD 16) (.node .dead (.node .dead (fD 14) (lD (.cells 271 1 1 (lA .nilsl 23) true
  false) 13)) (fD 15))) (fD 17)) (fD 18))) (.node .dead (.node .dead (.node .dead (fD 17) (.node .dead (.node .dead (fD 15) (.node .dead (fD 14) (lD (.cells 255 66 66 (.node (nI 1)
  (.node (.map 1864) (.node (nU 0) (.node (nU 0) (.node (nU 0) (.node (nU 0) (lA (nU 0) 17) (fA 18)) (lA (nU 0) 18)) (.node (nU 0) (lA (nU 0) 18) (lA (nU 0) 18))) (.node (nU 0)
  (.node (nU 0) (lA (nU 0) 18) (lA (nU 0) 18)) (.node (nU 0) (lA (nU 0) 18) (lA (nU 0) 18)))) (.node (nU 0) (.node (nU 0) (.node (nU 0) (.node (nU 0) (lA (nU 0) 17) (fA 18)) (lA (nU
  0) 18)) (.node (nU 0) (lA (nU 0) 18) (lA (nU 0) 18))) (.node (nU 0) (.node (nU 0) (lA (nU 0) 18) (lA (nU 0) 18)) (.node (nU 0) (lA (nU 0) 18) (lA (nU 0) 18))))) (.node (nU 0)
  (.node (nU 0) (.node (nU 0) (.node (nU 0) (.node (nU 0) (lA (nU 0) 17) (fA 18)) (lA (nU 0) 18)) (.node (nU 0) (lA (nU 0) 18) (lA (nU 0) 18))) (.node (nU 0) (.node (nU 0) (lA (nU 0)
  18) (lA (nU 0) 18)) (.node (nU 0) (lA (nU 0) 18) (lA (nU 0) 18)))) (.node (nU 0) (.node (nU 0) (.node (nU 0) (lA (nU 0) 18) (lA (nU 0) 18)) (.node (nU 0) (lA (nU 0) 18) (lA (nU 0)
  18))) (.node (nU 0) (.node (nU 0) (lA (nU 0) 18) (lA (nU 0) 18)) (.node (nU 0) (lA (nU 0) 18) (lA (nU 0) 18)))))) true false) 13))) (fD 16))) (.node .dead (fD 17) (.node .dead
  (.node .dead (fD 15) (lD (.cells 125 3 3 (.node (.ptr 18 0) (lA (.ptr 796 0) 22) (lA (.ptr 872 0) 22)) true false) 14)) (fD 16)))) (.node .dead (.node .dead (.node .dead (.node
  .dead (fD 15) (lD (.cells 25 1 384 (.node (nU 5929342154728227142) (.node (nU 3072) (.node (nU 18446744073709548543) (.node (nU 0) (.node (nU 0) (.node (nU 0) (.node (nU 0) (.node
  (nU 0) (lA (nU 0) 15) (lA (nU 0) 15)) (.node (nU 0) (lA (nU 0) 15) (fA 16))) (.node (nU 0) (.node (nU 0) (lA (nU 0) 15) (fA 16)) (.node (nU 0) (lA (nU 0) 15) (fA 16)))) (.node (nU
  0) (.node (nU 0) (.node (nU 0) (lA (nU 0) 15) (fA 16)) (.node (nU 0) (lA (nU 0) 15) (fA 16))) (.node (nU 0) (.node (nU 0) (lA (nU 0) 15) (fA 16)) (.node (nU 0) (lA (nU 0) 15) (fA
  16))))) (.node (nU 0) (.node (nU 0) (.node (nU 0) (.node (nU 0) (lA (nU 0) 15) (fA 16)) (.node (nU 0) (lA (nU 0) 15) (fA 16))) (.node (nU 0) (.node (nU 0) (lA (nU 0) 15) (fA 16))
  (.node (nU 0) (lA (nU 0) 15) (fA 16)))) (.node (nU 0) (.node (nU 0) (.node (nU 0) (lA (nU 0) 15) (fA 16)) (.node (nU 0) (lA (nU 0) 15) (fA 16))) (.node (nU 0) (.node (nU 0) (lA (nU
  0) 15) (fA 16)) (.node (nU 0) (lA (nU 0) 15) (fA 16)))))) (.node (nU 0) (.node (nU 0) (.node (nU 0) (.node (nU 0) (.node (nU 0) (lA (nU 0) 15) (fA 16)) (.node (nU 0) (lA (nU 0) 15)
  (fA 16))) (.node (nU 0) (.node (nU 0) (lA (nU 0) 15) (fA 16)) (.node (nU 0) (lA (nU 0) 15) (fA 16)))) (.node (nU 0) (.node (nU 0) (.node (nU 0) (lA (nU 0) 15) (fA 16)) (.node (nU
  0) (lA (nU 0) 15) (fA 16))) (.node (nU 0) (.node (nU 0) (lA (nU 0) 15) (fA 16)) (.node (nU 0) (lA (nU 0) 15) (fA 16))))) (.node (nU 0) (.node (nU 0) (.node (nU 0) (.node (nU 0) (lA
  (nU 0) 15) (fA 16)) (.node (nU 0) (lA (nU 0) 15) (fA 16))) (.node (nU 0) (.node (nU 0) (lA (nU 0) 15) (fA 16)) (.node (nU 0) (lA (nU 0) 15) (fA 16)))) (.node (nU 0) (.node (nU 0)
  (.node (nU 0) (lA (nU 0) 15) (fA 16)) (.node (nU 0) (lA (nU 0) 15) (fA 16))) (.node (nU 0) (.node (nU 0) (lA (nU 0) 15) (fA 16)) (.node (nU 0) (lA (nU 0) 15) (fA 16))))))) (.node
  (nU 0) (.node (nU 0) (.node (nU 0) (.node (nU 0) (.node (nU 0) (.node (nU 1) (lA (nU 0) 15) (fA 16)) (.node (nU 0) (lA (nU 0) 15) (fA 16))) (.node (nU 0) (.node (nU 0) (lA (nU 0)
  15) (fA 16)) (.node (nU 0) (lA (nU 0) 15) (fA 16)))) (.node (nU 0) (.node (nU 0) (.node (nU 0) (lA (nU 0) 15) (fA 16)) (.node (nU 0) (lA (nU 0) 15) (fA 16))) (.node (nU 0) (.node
  (nU 0) (lA (nU 0) 15) (fA 16)) (.node (nU 0) (lA (nU 0) 15) (fA 16))))) (.node (nU 0) (.node (nU 0) (.node (nU 0) (.node (nU 0) (lA (nU 0) 15) (fA 16)) (.node (nU 0) (lA (nU 0) 15)
  (fA 16))) (.node (nU 0) (.node (nU 0) (lA (nU 0) 15) (fA 16)) (.node (nU 0) (lA (nU 0) 15) (fA 16)))) (.node (nU 0) (.node (nU 0) (.node (nU 0) (lA (nU 0) 15) (fA 16)) (.node (nU
  0) (lA (nU 0) 15) (fA 16))) (.node (nU 0) (.node (nU 0) (lA (nU 0) 15) (fA 16)) (.node (nU 0) (lA (nU 0) 15) (fA 16)))))) (.node (nU 0) (.node (nU 0) (.node (nU 0) (.node (nU 0)
  (.node (nU 0) (lA (nU 0) 15) (fA 16)) (.node (nU 0) (lA (nU 0) 15) (fA 16))) (.node (nU 0) (.node (nU 0) (lA (nU 0) 15) (fA 16)) (.node (nU 0) (lA (nU 0) 15) (fA 16)))) (.node (nU
  0) (.node (nU 0) (.node (nU 0) (lA (nU 0) 15) (fA 16)) (.node (nU 0) (lA (nU 0) 15) (fA 16))) (.node (nU 0) (.node (nU 0) (lA (nU 0) 15) (fA 16)) (.node (nU 0) (lA (nU 0) 15) (fA
  16))))) (.node (nU 0) (.node (nU 0) (.node (nU 0) (.node (nU 0) (lA (nU 0) 15) (fA 16)) (.node (nU 0) (lA (nU 0) 15) (fA 16))) (.node (nU 0) (.node (nU 0) (lA (nU 0) 15) (fA 16))
  (.node (nU 0) (lA (nU 0) 15) (fA 16)))) (.node (nU 0) (.node (nU 0) (.node (nU 0) (lA (nU 0) 15) (fA 16)) (.node (nU 0) (lA (nU 0) 15) (fA 16))) (.node (nU 0) (.node (nU 0) (lA (nU
  0) 15) (fA 16)) (.node (nU 0) (lA (nU 0) 15) (fA 16)))))))) (.node (nU 1088) (.node (nU 0) (.node (nU 0) (.node (nU 0) (.node (nU 0) (.node (nU 0) (.node (nU 3) (lA (nU 0) 15) (fA
  16)) (.node (nU 0) (lA (nU 0) 15) (fA 16))) (.node (nU 0) (.node (nU 0) (lA (nU 0) 15) (fA 16)) (.node (nU 0) (lA (nU 0) 15) (fA 16)))) (.node (nU 0) (.node (nU 0) (.node (nU 0)
  (lA (nU 0) 15) (fA 16)) (.node (nU 0) (lA (nU 0) 15) (fA 16))) (.node (nU 0) (.node (nU 0) (lA (nU 0) 15) (fA 16)) (.node (nU 0) (lA (nU 0) 15) (fA 16))))) (.node (nU 0) (.node (nU
  0) (.node (nU 0) (.node (nU 5495893775785918464) (lA (nU 0) 15) (fA 16)) (.node (nU 0) (lA (nU 0) 15) (fA 16))) (.node (nU 0) (.node (nU 0) (lA (nU 0) 15) (fA 16)) (.node (nU 0)
  (lA (nU 0) 15) (fA 16)))) (.node (nU 0) (.node (nU 0) (.node (nU 0) (lA (nU 0) 15) (fA 16)) (.node (nU 0) (lA (nU 0) 15) (fA 16))) (.node (nU 0) (.node (nU 0) (lA (nU 0) 15) (fA
  16)) (.node (nU 0) (lA (nU 0) 15) (fA 16)))))) (.node (nU 0) (.node (nU 0) (.node (nU 0) (.node (nU 0) (.node (nU 0) (lA (nU 0) 15) (fA 16)) (.node (nU 0) (lA (nU 0) 15) (fA 16)))
  (.node (nU 0) (.node (nU 0) (lA (nU 0) 15) (fA 16)) (.node (nU 0) (lA (nU 0) 15) (fA 16)))) (.node (nU 0) (.node (nU 0) (.node (nU 0) (lA (nU 0) 15) (fA 16)) (.node (nU 0) (lA (nU
  0) 15) (fA 16))) (.node (nU 0) (.node (nU 0) (lA (nU 0) 15) (fA 16)) (.node (nU 0) (lA (nU 0) 15) (fA 16))))) (.node (nU 0) (.node (nU 0) (.node (nU 0) (.node (nU 1088) (lA (nU 0)
  15) (fA 16)) (.node (nU 0) (lA (nU 0) 15) (fA 16))) (.node (nU 0) (.node (nU 0) (lA (nU 0) 15) (fA 16)) (.node (nU 0) (lA (nU 0) 15) (fA 16)))) (.node (nU 0) (.node (nU 0) (.node
  (nU 0) (lA (nU 0) 15) (fA 16)) (.node (nU 0) (lA (nU 0) 15) (fA 16))) (.node (nU 0) (.node (nU 0) (lA (nU 0) 15) (fA 16)) (.node (nU 0) (lA (nU 0) 15) (fA 16))))))) (.node (nU 0)
  (.node (nU 0) (.node (nU 0) (.node (nU 0) (.node (nU 0) (.node (nU 0) (lA (nU 0) 15) (fA 16)) (.node (nU 0) (lA (nU 0) 15) (fA 16))) (.node (nU 0) (.node (nU 0) (lA (nU 0) 15) (fA
  16)) (.node (nU 0) (lA (nU 0) 15) (fA 16)))) (.node (nU 0) (.node (nU 0) (.node (nU 0) (lA (nU 0) 15) (fA 16)) (.node (nU 0) (lA (nU 0) 15) (fA 16))) (.node (nU 0) (.node (nU 0)
  (lA (nU 0) 15) (fA 16)) (.node (nU 0) (lA (nU 0) 15) (fA 16))))) (.node (nU 0) (.node (nU 0) (.node (nU 0) (.node (nU 0) (lA (nU 0) 15) (fA 16)) (.node (nU 0) (lA (nU 0) 15) (fA
  16))) (.node (nU 0) (.node (nU 0) (lA (nU 0) 15) (fA 16)) (.node (nU 0) (lA (nU 0) 15) (fA 16)))) (.node (nU 0) (.node (nU 0) (.node (nU 0) (lA (nU 0) 15) (fA 16)) (.node (nU 0)
  (lA (nU 0) 15) (fA 16))) (.node (nU 0) (.node (nU 0) (lA (nU 0) 15) (fA 16)) (.node (nU 0) (lA (nU 0) 15) (fA 16)))))) (.node (nU 0) (.node (nU 0) (.node (nU 0) (.node (nU 0)
  (.node (nU 0) (lA (nU 0) 15) (fA 16)) (.node (nU 0) (lA (nU 0) 15) (fA 16))) (.node (nU 0) (.node (nU 0) (lA (nU 0) 15) (fA 16)) (.node (nU 0) (lA (nU 0) 15) (fA 16)))) (.node (nU
  0) (.node (nU 0) (.node (nU 0) (lA (nU 0) 15) (fA 16)) (.node (nU 0) (lA (nU 0) 15) (fA 16))) (.node (nU 0) (.node (nU 0) (lA (nU 0) 15) (fA 16)) (.node (nU 0) (lA (nU 0) 15) (fA
  16))))) (.node (nU 0) (.node (nU 0) (.node (nU 0) (.node (nU 0) (lA (nU 0) 15) (fA 16)) (.node (nU 0) (lA (nU 0) 15) (fA 16))) (.node (nU 0) (.node (nU 0) (lA (nU 0) 15) (fA 16))
  (.node (nU 0) (lA (nU 0) 15) (fA 16)))) (.node (nU 0) (.node (nU 0) (.node (nU 0) (lA (nU 0) 15) (fA 16)) (.node (nU 0) (lA (nU 0) 15) (fA 16))) (.node (nU 0) (.node (nU 0) (lA (nU
  0) 15) (fA 16)) (.node (nU 0) (lA (nU 0) 15) (fA 16))))))))) false false) 14)) (fD 16)) (fD 17)) (fD 18)))) (.node .dead (.node .dead (.node .dead (.node .dead (.node .dead (fD 16)
  (.node .dead (fD 15) (lD (.cells 128 7 7 (.node (.sl 1676 0 0 384 (.u 1676 0)) (.node (.sl 1674 0 0 384 (.u 1674 0)) (lA (nU 66) 21) (lA (nU 4) 21)) (.node (.map 900) (lA (nU 6)
  21) (lA (nU 4) 21))) true false) 14))) (fD 17)) (fD 18)) (fD 19)) (.node .dead (.node .dead (.node .dead (.node .dead (fD 16) (.node .dead (.node .dead (fD 14) (lD (.cells 205 2 6
  (.node (nI 0) (.node (nU 0) (lA (nU 0) 21) (lA (nU 1) 21)) (.node (nI 1) (lA (nI 3) 21) (fA 22))) true false) 13)) (fD 15))) (fD 17)) (fD 18)) (fD 19))))) (.node (.cells 227 34 34
  (.node .nil (.node (nI 0) (.node (nI 0) (.node (nU 0) (.node (nU 0) (lA (.fn (.func 102) [(.ptr 2 0)] []) 18) (fA 19)) (lA (nU 0) 19)) (.node (nU 0) (lA (nU 0) 19) (lA (.bool
  false) 19))) (.node (nI 0) (.node (nU 0) (.node (nU 0) (lA (nI 0) 18) (fA 19)) (lA (nU 0) 19)) (.node (nU 0) (lA (nU 0) 19) (lA (nU 0) 19)))) (.node (nU 1) (.node (nU 0) (.node (nU
  0) (.node (nU 0) (lA (.bool false) 18) (fA 19)) (lA (nU 0) 19)) (.node (nU 0) (lA (nU 0) 19) (lA (nU 0) 19))) (.node (nU 0) (.node (nU 0) (lA (nU 0) 19) (lA (nU 0) 19)) (.node (nU
  0) (lA (nU 0) 19) (lA .nilif 19))))) true false) (.node .dead (.node .dead (.node .dead (.node .dead (fD 18) (.node .dead (.node .dead (.node .dead (fD 15) (lD (.cells 271 1 1 (lA
  .nilsl 23) true false) 14)) (fD 16)) (fD 17))) (.node .dead (fD 18) (.node .dead (fD 17) (.node .dead (.node .dead (fD 15) (lD (.cells 25 1 1 (lA (nU 7) 23) true false) 14)) (fD
  16))))) (.node .dead (.node .dead (.node .dead (.node .dead (.node .dead (fD 15) (.node .dead (fD 14) (lD (.cells 26 1 15 (.node (nU 1088) (.node (nU 1280) (.node (nU 1536) (lA (nU
  1984) 20) (lA (nU 1792) 20)) (.node (nU 1408) (lA (nU 1664) 20) (lA (nU 1920) 20))) (.node (nU 1152) (.node (nU 1344) (lA (nU 1600) 20) (lA (nU 1856) 20)) (.node (nU 1216) (lA (nU
  1728) 20) (lA (nU 1472) 20)))) false false) 13))) (fD 16)) (.node .dead (.node .dead (fD 15) (.node .dead (fD 14) (lD (.map [] 2) 13))) (.node .dead (.node .dead (.node .dead (lD
  (.cells 64 3 3 (.node (nI 0) (lA (.str (bs [])) 22) (lA .nilsl 22)) true false) 12) (fD 13)) (fD 14)) (fD 15)))) (.node .dead (fD 17) (.node .dead (.node .dead (fD 15) (lD (.cells
  255 66 66 (.node (nI 1) (.node (.map 871) (.node (nU 0) (.node (nU 0) (.node (nU 0) (.node (nU 0) (lA (nU 0) 17) (fA 18)) (lA (nU 0) 18)) (.node (nU 0) (lA (nU 0) 18) (lA (nU 0)
  18))) (.node (nU 0) (.node (nU 0) (lA (nU 0) 18) (lA (nU 0) 18)) (.node (nU 0) (lA (nU 0) 18) (lA (nU 0) 18)))) (.node (nU 0) (.node (nU 0) (.node (nU 0) (.node (nU 0) (lA (nU 0)
  17) (fA 18)) (lA (nU 0) 18)) (.node (nU 0) (lA (nU 0) 18) (lA (nU 0) 18))) (.node (nU 0) (.node (nU 0) (lA (nU 0) 18) (lA (nU 0) 18)) (.node (nU 0) (lA (nU 0) 18) (lA (nU 0)
  18))))) (.node (nU 0) (.node (nU 0) (.node (nU 0) (.node (nU 0) (.node (nU 0) (lA (nU 0) 17) (fA 18)) (lA (nU 0) 18)) (.node (nU 0) (lA (nU 0) 18) (lA (nU 0) 18))) (.node (nU 0)
  (.node (nU 0) (lA (nU 0) 18) (lA (nU 0) 18)) (.node (nU 0) (lA (nU 0) 18) (lA (nU 0) 18)))) (.node (nU 0) (.node (nU 0) (.node (nU 0) (lA (nU 0) 18) (lA (nU 0) 18)) (.node (nU 0)
  (lA (nU 0) 18) (lA (nU 0) 18))) (.node (nU 0) (.node (nU 0) (lA (nU 0) 18) (lA (nU 0) 18)) (.node (nU 0) (lA (nU 0) 18) (lA (nU 0) 18)))))) true false) 14)) (fD 16)))) (fD 19)))
  (.node .dead (.node .dead (.node .dead (.node .dead (.node .dead (fD 16) (.node .dead (fD 15) (lD (.map [] 4) 14))) (fD 17)) (fD 18)) (.node .dead (.node .dead (.node .dead (fD 16)
  (.node .dead (.node .dead (fD 14) (lD (.cells 271 1 1 (lA (.sl 1854 0 0 4 (.u 1854 0)) 23) true false) 13)) (fD 15))) (.node .dead (.node .dead (fD 15) (.node .dead (fD 14) (.node
  .dead (.node .dead (lD (.cells 5 1 1 (lA (nB 0) 23) true false) 11) (fD 12)) (fD 13)))) (fD 16))) (.node .dead (fD 17) (.node .dead (.node .dead (fD 15) (.node .dead (.node .dead
  (lD (.cells 5 1 3072 (.node (nB 70) (.node (nB 65) (.node (nB 84) (.node (nB 82) (.node (nB 0) (.node (nB 255) (.node (nB 0) (.node (nB 0) (.node (nB 0) (.node (nB 0) (lB (nB 0)
  13) (fB 14)) (.node (nB 0) (lB (nB 0) 13) (fB 14))) (.node (nB 0) (.node (nB 0) (lB (nB 0) 13) (fB 14)) (.node (nB 0) (lB (nB 0) 13) (fB 14)))) (.node (nB 0) (.node (nB 0) (.node
  (nB 0) (lB (nB 0) 13) (fB 14)) (.node (nB 0) (lB (nB 0) 13) (fB 14))) (.node (nB 0) (.node (nB 0) (lB (nB 0) 13) (fB 14)) (.node (nB 0) (lB (nB 0) 13) (fB 14))))) (.node (nB 0)
  (.node (nB 0) (.node (nB 0) (.node (nB 0) (lB (nB 0) 13) (fB 14)) (.node (nB 0) (lB (nB 0) 13) (fB 14))) (.node (nB 0) (.node (nB 0) (lB (nB 0) 13) (fB 14)) (.node (nB 0) (lB (nB
  0) 13) (fB 14)))) (.node (nB 0) (.node (nB 0) (.node (nB 0) (lB (nB 0) 13) (fB 14)) (.node (nB 0) (lB (nB 0) 13) (fB 14))) (.node (nB 0) (.node (nB 0) (lB (nB 0) 13) (fB 14))
  (.node (nB 0) (lB (nB 0) 13) (fB 14)))))) (.node (nB 0) (.node (nB 0) (.node (nB 0) (.node (nB 0) (.node (nB 0) (lB (nB 0) 13) (fB 14)) (.node (nB 0) (lB (nB 0) 13) (fB 14)))
  (.node (nB 0) (.node (nB 0) (lB (nB 0) 13) (fB 14)) (.node (nB 0) (lB (nB 0) 13) (fB 14)))) (.node (nB 0) (.node (nB 0) (.node (nB 0) (lB (nB 0) 13) (fB 14)) (.node (nB 0) (lB (nB
  0) 13) (fB 14))) (.node (nB 0) (.node (nB 0) (lB (nB 0) 13) (fB 14)) (.node (nB 0) (lB (nB 0) 13) (fB 14))))) (.node (nB 0) (.node (nB 0) (.node (nB 0) (.node (nB 0) (lB (nB 0) 13)
  (fB 14)) (.node (nB 0) (lB (nB 0) 13) (fB 14))) (.node (nB 0) (.node (nB 0) (lB (nB 0) 13) (fB 14)) (.node (nB 0) (lB (nB 0) 13) (fB 14)))) (.node (nB 0) (.node (nB 0) (.node (nB
  0) (lB (nB 0) 13) (fB 14)) (.node (nB 0) (lB (nB 0) 13) (fB 14))) (.node (nB 0) (.node (nB 0) (lB (nB 0) 13) (fB 14)) (lB (nB 0) 14)))))) (.node (nB 0) (.node (nB 0) (.node (nB 0)
  (.node (nB 0) (.node (nB 0) (.node (nB 0) (lB (nB 0) 13) (fB 14)) (.node (nB 0) (lB (nB 0) 13) (fB 14))) (.node (nB 0) (.node (nB 0) (lB (nB 0) 13) (fB 14)) (.node (nB 0) (lB (nB
  0) 13) (fB 14)))) (.node (nB 0) (.node (nB 0) (.node (nB 0) (.node (nB 0) (lB (nB 76) 12) (fB 13)) (fB 14)) (.node (nB 0) (lB (nB 0) 13) (fB 14))) (.node (nB 0) (.node (nB 0) (lB
  (nB 0) 13) (fB 14)) (.node (nB 0) (lB (nB 0) 13) (fB 14))))) (.node (nB 0) (.node (nB 0) (.node (nB 0) (.node (nB 0) (lB (nB 0) 13) (fB 14)) (.node (nB 0) (lB (nB 0) 13) (fB 14)))
  (.node (nB 0) (.node (nB 0) (lB (nB 0) 13) (fB 14)) (.node (nB 0) (lB (nB 0) 13) (fB 14)))) (.node (nB 0) (.node (nB 0) (.node (nB 0) (lB (nB 0) 13) (fB 14)) (.node (nB 0) (lB (nB
  0) 13) (fB 14))) (.node (nB 0) (.node (nB 0) (lB (nB 0) 13) (fB 14)) (lB (nB 0) 14))))) (.node (nB 0) (.node (nB 0) (.node (nB 0) (.node (nB 0) (.node (nB 0) (lB (nB 0) 13) (fB
  14)) (.node (nB 0) (lB (nB 0) 13) (fB 14))) (.node (nB 0) (.node (nB 0) (lB (nB 0) 13) (fB 14)) (.node (nB 0) (lB (nB 0) 13) (fB 14)))) (.node (nB 0) (.node (nB 0) (.node (nB 0)
  (lB (nB 0) 13) (fB 14)) (.node (nB 0) (lB (nB 0) 13) (fB 14))) (.node (nB 0) (.node (nB 0) (lB (nB 0) 13) (fB 14)) (.node (nB 0) (lB (nB 0) 13) (fB 14))))) (.node (nB 0) (.node (nB
  0) (.node (nB 0) (.node (nB 0) (lB (nB 0) 13) (fB 14)) (.node (nB 0) (lB (nB 0) 13) (fB 14))) (.node (nB 0) (.node (nB 0) (lB (nB 0) 13) (fB 14)) (.node (nB 0) (lB (nB 0) 13) (fB
  14)))) (.node (nB 0) (.node (nB 0) (.node (nB 0) (lB (nB 0) 13) (fB 14)) (.node (nB 0) (lB (nB 0) 13) (fB 14))) (.node (nB 0) (.node (nB 0) (lB (nB 0) 13) (fB 14)) (lB (nB 0)
  14))))))) (.node (nB 0) (.node (nB 0) (.node (nB 0) (.node (nB 0) (.node (nB 0) (.node (nB 0) (.node (nB 0) (lB (nB 0) 13) (fB 14)) (.node (nB 0) (lB (nB 0) 13) (fB 14))) (.node
  (nB 0) (.node (nB 0) (lB (nB 0) 13) (fB 14)) (.node (nB 0) (lB (nB 0) 13) (fB 14)))) (.node (nB 0) (.node (nB 0) (.node (nB 0) (.node (nB 0) (lB (nB 69) 12) (fB 13)) (fB 14))
  (.node (nB 0) (lB (nB 0) 13) (fB 14))) (.node (nB 0) (.node (nB 0) (lB (nB 0) 13) (fB 14)) (.node (nB 0) (lB (nB 0) 13) (fB 14))))) (.node (nB 0) (.node (nB 0) (.node (nB 0) (.node
  (nB 0) (lB (nB 0) 13) (fB 14)) (.node (nB 0) (lB (nB 0) 13) (fB 14))) (.node (nB 0) (.node (nB 0) (lB (nB 0) 13) (fB 14)) (.node (nB 0) (lB (nB 0) 13) (fB 14)))) (.node (nB 0)
  (.node (nB 0) (.node (nB 0) (lB (nB 0) 13) (fB 14)) (.node (nB 0) (lB (nB 0) 13) (fB 14))) (.node (nB 0) (.node (nB 0) (lB (nB 0) 13) (fB 14)) (lB (nB 0) 14))))) (.node (nB 0)
  (.node (nB 0) (.node (nB 0) (.node (nB 0) (.node (nB 0) (lB (nB 0) 13) (fB 14)) (.node (nB 0) (lB (nB 0) 13) (fB 14))) (.node (nB 0) (.node (nB 0) (lB (nB 0) 13) (fB 14)) (.node
  (nB 0) (lB (nB 0) 13) (fB 14)))) (.node (nB 0) (.node (nB 0) (.node (nB 0) (lB (nB 0) 13) (fB 14)) (.node (nB 0) (lB (nB 0) 13) (fB 14))) (.node (nB 0) (.node (nB 0) (lB (nB 0) 13)
  (fB 14)) (.node (nB 0) (lB (nB 0) 13) (fB 14))))) (.node (nB 0) (.node (nB 0) (.node (nB 0) (.node (nB 0) (lB (nB 0) 13) (fB 14)) (.node (nB 0) (lB (nB 0) 13) (fB 14))) (.node (nB
  0) (.node (nB 0) (lB (nB 0) 13) (fB 14)) (.node (nB 0) (lB (nB 0) 13) (fB 14)))) (.node (nB 0) (.node (nB 0) (.node (nB 0) (lB (nB 0) 13) (fB 14)) (.node (nB 0) (lB (nB 0) 13) (fB
  14))) (.node (nB 0) (.node (nB 0) (lB (nB 0) 13) (fB 14)) (lB (nB 0) 14)))))) (.node (nB 255) (.node (nB 0) (.node (nB 0) (.node (nB 0) (.node (nB 0) (.node (nB 0) (lB (nB 0) 13)
  (fB 14)) (.node (nB 0) (lB (nB 0) 13) (fB 14))) (.node (nB 0) (.node (nB 0) (lB (nB 0) 13) (fB 14)) (.node (nB 0) (lB (nB 0) 13) (fB 14)))) (.node (nB 0) (.node (nB 0) (.node (nB
  0) (lB (nB 0) 13) (fB 14)) (.node (nB 0) (lB (nB 0) 13) (fB 14))) (.node (nB 0) (.node (nB 0) (lB (nB 0) 13) (fB 14)) (.node (nB 0) (lB (nB 0) 13) (fB 14))))) (.node (nB 0) (.node
  (nB 0) (.node (nB 0) (.node (nB 0) (lB (nB 0) 13) (fB 14)) (.node (nB 0) (lB (nB 0) 13) (fB 14))) (.node (nB 0) (.node (nB 0) (lB (nB 0) 13) (fB 14)) (.node (nB 0) (lB (nB 0) 13)
  (fB 14)))) (.node (nB 0) (.node (nB 0) (.node (nB 0) (lB (nB 0) 13) (fB 14)) (.node (nB 0) (lB (nB 0) 13) (fB 14))) (.node (nB 0) (.node (nB 0) (lB (nB 0) 13) (fB 14)) (lB (nB 0)
  14))))) (.node (nB 0) (.node (nB 0) (.node (nB 0) (.node (nB 0) (.node (nB 0) (lB (nB 0) 13) (fB 14)) (.node (nB 0) (lB (nB 0) 13) (fB 14))) (.node (nB 0) (.node (nB 0) (lB (nB 0)
  13) (fB 14)) (.node (nB 0) (lB (nB 0) 13) (fB 14)))) (.node (nB 0) (.node (nB 0) (.node (nB 0) (lB (nB 0) 13) (fB 14)) (.node (nB 0) (lB (nB 0) 13) (fB 14))) (.node (nB 0) (.node
  (nB 0) (lB (nB 0) 13) (fB 14)) (.node (nB 0) (lB (nB 0) 13) (fB 14))))) (.node (nB 0) (.node (nB 0) (.node (nB 0) (.node (nB 0) (lB (nB 0) 13) (fB 14)) (.node (nB 0) (lB (nB 0) 13)
  (fB 14))) (.node (nB 0) (.node (nB 0) (lB (nB 0) 13) (fB 14)) (.node (nB 0) (lB (nB 0) 13) (fB 14)))) (.node (nB 0) (.node (nB 0) (.node (nB 0) (lB (nB 0) 13) (fB 14)) (.node (nB
  0) (lB (nB 0) 13) (fB 14))) (.node (nB 0) (.node (nB 0) (lB (nB 0) 13) (fB 14)) (lB (nB 0) 14)))))))) (.node (nB 65) (.node (nB 12) (.node (nB 8) (.node (nB 0) (.node (nB 0) (.node
  (nB 0) (.node (nB 0) (.node (nB 0) (lB (nB 0) 13) (fB 14)) (.node (nB 0) (lB (nB 0) 13) (fB 14))) (.node (nB 0) (.node (nB 0) (lB (nB 0) 13) (fB 14)) (.node (nB 0) (lB (nB 0) 13)
  (fB 14)))) (.node (nB 0) (.node (nB 0) (.node (nB 0) (lB (nB 0) 13) (fB 14)) (.node (nB 0) (lB (nB 0) 13) (fB 14))) (.node (nB 0) (.node (nB 0) (lB (nB 0) 13) (fB 14)) (.node (nB
  0) (lB (nB 0) 13) (fB 14))))) (.node (nB 0) (.node (nB 0) (.node (nB 0) (.node (nB 0) (lB (nB 0) 13) (fB 14)) (.node (nB 0) (lB (nB 0) 13) (fB 14))) (.node (nB 0) (.node (nB 0) (lB
  (nB 0) 13) (fB 14)) (.node (nB 0) (lB (nB 0) 13) (fB 14)))) (.node (nB 0) (.node (nB 0) (.node (nB 0) (.node (nB 0) (lB (nB 8) 12) (fB 13)) (fB 14)) (.node (nB 0) (lB (nB 0) 13)
  (fB 14))) (.node (nB 0) (.node (nB 0) (lB (nB 0) 13) (fB 14)) (lB (nB 0) 14))))) (.node (nB 0) (.node (nB 0) (.node (nB 0) (.node (nB 0) (.node (nB 0) (lB (nB 0) 13) (fB 14))
  (.node (nB 0) (lB (nB 0) 13) (fB 14))) (.node (nB 0) (.node (nB 0) (lB (nB 0) 13) (fB 14)) (.node (nB 0) (lB (nB 0) 13) (fB 14)))) (.node (nB 0) (.node (nB 0) (.node (nB 0) (lB (nB
  0) 13) (fB 14)) (.node (nB 0) (lB (nB 0) 13) (fB 14))) (.node (nB 0) (.node (nB 0) (lB (nB 0) 13) (fB 14)) (.node (nB 0) (lB (nB 0) 13) (fB 14))))) (.node (nB 0) (.node (nB 0)
  (.node (nB 0) (.node (nB 0) (lB (nB 0) 13) (fB 14)) (.node (nB 0) (lB (nB 0) 13) (fB 14))) (.node (nB 0) (.node (nB 0) (lB (nB 0) 13) (fB 14)) (.node (nB 0) (lB (nB 0) 13) (fB
  14)))) (.node (nB 0) (.node (nB 0) (.node (nB 0) (lB (nB 0) 13) (fB 14)) (.node (nB 0) (lB (nB 0) 13) (fB 14))) (.node (nB 0) (.node (nB 0) (lB (nB 0) 13) (fB 14)) (lB (nB 0)
  14)))))) (.node (nB 243) (.node (nB 0) (.node (nB 0) (.node (nB 0) (.node (nB 0) (.node (nB 0) (lB (nB 0) 13) (fB 14)) (.node (nB 0) (lB (nB 0) 13) (fB 14))) (.node (nB 0) (.node
  (nB 0) (lB (nB 0) 13) (fB 14)) (.node (nB 0) (lB (nB 0) 13) (fB 14)))) (.node (nB 0) (.node (nB 0) (.node (nB 0) (lB (nB 0) 13) (fB 14)) (.node (nB 0) (lB (nB 0) 13) (fB 14)))
  (.node (nB 0) (.node (nB 0) (lB (nB 0) 13) (fB 14)) (.node (nB 0) (lB (nB 0) 13) (fB 14))))) (.node (nB 0) (.node (nB 0) (.node (nB 0) (.node (nB 0) (lB (nB 0) 13) (fB 14)) (.node
  (nB 0) (lB (nB 0) 13) (fB 14))) (.node (nB 0) (.node (nB 0) (lB (nB 0) 13) (fB 14)) (.node (nB 0) (lB (nB 0) 13) (fB 14)))) (.node (nB 0) (.node (nB 0) (.node (nB 0) (lB (nB 0) 13)
  (fB 14)) (.node (nB 0) (lB (nB 0) 13) (fB 14))) (.node (nB 0) (.node (nB 0) (lB (nB 0) 13) (fB 14)) (lB (nB 0) 14))))) (.node (nB 0) (.node (nB 0) (.node (nB 0) (.node (nB 0)
  (.node (nB 0) (lB (nB 0) 13) (fB 14)) (.node (nB 0) (lB (nB 0) 13) (fB 14))) (.node (nB 0) (.node (nB 0) (lB (nB 0) 13) (fB 14)) (.node (nB 0) (lB (nB 0) 13) (fB 14)))) (.node (nB
  0) (.node (nB 0) (.node (nB 0) (lB (nB 0) 13) (fB 14)) (.node (nB 0) (lB (nB 0) 13) (fB 14))) (.node (nB 0) (.node (nB 0) (lB (nB 0) 13) (fB 14)) (.node (nB 0) (lB (nB 0) 13) (fB
  14))))) (.node (nB 0) (.node (nB 0) (.node (nB 0) (.node (nB 0) (lB (nB 0) 13) (fB 14)) (.node (nB 0) (lB (nB 0) 13) (fB 14))) (.node (nB 0) (.node (nB 0) (lB (nB 0) 13) (fB 14))
  (.node (nB 0) (lB (nB 0) 13) (fB 14)))) (.node (nB 0) (.node (nB 0) (.node (nB 0) (lB (nB 0) 13) (fB 14)) (.node (nB 0) (lB (nB 0) 13) (fB 14))) (.node (nB 0) (.node (nB 0) (lB (nB
  0) 13) (fB 14)) (lB (nB 0) 14))))))) (.node (nB 0) (.node (nB 0) (.node (nB 0) (.node (nB 0) (.node (nB 0) (.node (nB 0) (.node (nB 0) (lB (nB 0) 13) (fB 14)) (.node (nB 0) (lB (nB
  0) 13) (fB 14))) (.node (nB 0) (.node (nB 0) (lB (nB 0) 13) (fB 14)) (.node (nB 0) (lB (nB 0) 13) (fB 14)))) (.node (nB 0) (.node (nB 0) (.node (nB 0) (.node (nB 0) (lB (nB 86) 12)
  (fB 13)) (fB 14)) (.node (nB 0) (lB (nB 0) 13) (fB 14))) (.node (nB 0) (.node (nB 0) (lB (nB 0) 13) (fB 14)) (.node (nB 0) (lB (nB 0) 13) (fB 14))))) (.node (nB 0) (.node (nB 0)
  (.node (nB 0) (.node (nB 0) (lB (nB 0) 13) (fB 14)) (.node (nB 0) (lB (nB 0) 13) (fB 14))) (.node (nB 0) (.node (nB 0) (lB (nB 0) 13) (fB 14)) (.node (nB 0) (lB (nB 0) 13) (fB
  14)))) (.node (nB 0) (.node (nB 0) (.node (nB 0) (lB (nB 0) 13) (fB 14)) (.node (nB 0) (lB (nB 0) 13) (fB 14))) (.node (nB 0) (.node (nB 0) (lB (nB 0) 13) (fB 14)) (lB (nB 0)
  14))))) (.node (nB 0) (.node (nB 0) (.node (nB 0) (.node (nB 0) (.node (nB 0) (lB (nB 0) 13) (fB 14)) (.node (nB 0) (lB (nB 0) 13) (fB 14))) (.node (nB 0) (.node (nB 0) (lB (nB 0)
  13) (fB 14)) (.node (nB 0) (lB (nB 0) 13) (fB 14)))) (.node (nB 0) (.node (nB 0) (.node (nB 0) (lB (nB 0) 13) (fB 14)) (.node (nB 0) (lB (nB 0) 13) (fB 14))) (.node (nB 0) (.node
  (nB 0) (lB (nB 0) 13) (fB 14)) (.node (nB 0) (lB (nB 0) 13) (fB 14))))) (.node (nB 0) (.node (nB 0) (.node (nB 0) (.node (nB 0) (lB (nB 0) 13) (fB 14)) (.node (nB 0) (lB (nB 0) 13)
  (fB 14))) (.node (nB 0) (.node (nB 0) (lB (nB 0) 13) (fB 14)) (.node (nB 0) (lB (nB 0) 13) (fB 14)))) (.node (nB 0) (.node (nB 0) (.node (nB 0) (lB (nB 0) 13) (fB 14)) (.node (nB
  0) (lB (nB 0) 13) (fB 14))) (.node (nB 0) (.node (nB 0) (lB (nB 0) 13) (fB 14)) (lB (nB 0) 14)))))) (.node (nB 255) (.node (nB 0) (.node (nB 0) (.node (nB 0) (.node (nB 0) (.node
  (nB 0) (lB (nB 0) 13) (fB 14)) (.node (nB 0) (lB (nB 0) 13) (fB 14))) (.node (nB 0) (.node (nB 0) (lB (nB 0) 13) (fB 14)) (.node (nB 0) (lB (nB 0) 13) (fB 14)))) (.node (nB 0)
  (.node (nB 0) (.node (nB 0) (lB (nB 0) 13) (fB 14)) (.node (nB 0) (lB (nB 0) 13) (fB 14))) (.node (nB 0) (.node (nB 0) (lB (nB 0) 13) (fB 14)) (.node (nB 0) (lB (nB 0) 13) (fB
  14))))) (.node (nB 0) (.node (nB 0) (.node (nB 0) (.node (nB 0) (lB (nB 0) 13) (fB 14)) (.node (nB 0) (lB (nB 0) 13) (fB 14))) (.node (nB 0) (.node (nB 0) (lB (nB 0) 13) (fB 14))
  (.node (nB 0) (lB (nB 0) 13) (fB 14)))) (.node (nB 0) (.node (nB 0) (.node (nB 0) (lB (nB 0) 13) (fB 14)) (.node (nB 0) (lB (nB 0) 13) (fB 14))) (.node (nB 0) (.node (nB 0) (lB (nB
  0) 13) (fB 14)) (lB (nB 0) 14))))) (.node (nB 0) (.node (nB 0) (.node (nB 0) (.node (nB 0) (.node (nB 0) (lB (nB 0) 13) (fB 14)) (.node (nB 0) (lB (nB 0) 13) (fB 14))) (.node (nB
  0) (.node (nB 0) (lB (nB 0) 13) (fB 14)) (.node (nB 0) (lB (nB 0) 13) (fB 14)))) (.node (nB 0) (.node (nB 0) (.node (nB 0) (lB (nB 0) 13) (fB 14)) (.node (nB 0) (lB (nB 0) 13) (fB
  14))) (.node (nB 0) (.node (nB 0) (lB (nB 0) 13) (fB 14)) (.node (nB 0) (lB (nB 0) 13) (fB 14))))) (.node (nB 0) (.node (nB 0) (.node (nB 0) (.node (nB 0) (lB (nB 0) 13) (fB 14))
  (.node (nB 0) (lB (nB 0) 13) (fB 14))) (.node (nB 0) (.node (nB 0) (lB (nB 0) 13) (fB 14)) (.node (nB 0) (lB (nB 0) 13) (fB 14)))) (.node (nB 0) (.node (nB 0) (.node (nB 0) (lB (nB
  0) 13) (fB 14)) (.node (nB 0) (lB (nB 0) 13) (fB 14))) (.node (nB 0) (.node (nB 0) (lB (nB 0) 13) (fB 14)) (lB (nB 0) 14))))))))) (.node (nB 83) (.node (nB 70) (.node (nB 0) (.node
  (nB 64) (.node (nB 0) (.node (nB 0) (.node (nB 0) (.node (nB 0) (.node (nB 0) (.node (nB 1) (lB (nB 3) 12) (fB 13)) (fB 14)) (.node (nB 0) (lB (nB 0) 13) (fB 14))) (.node (nB 0)
  (.node (nB 0) (.node (nB 0) (lB (nB 7) 12) (fB 13)) (fB 14)) (.node (nB 0) (lB (nB 0) 13) (fB 14)))) (.node (nB 0) (.node (nB 0) (.node (nB 0) (lB (nB 1) 13) (fB 14)) (.node (nB 0)
  (lB (nB 0) 13) (fB 14))) (.node (nB 0) (.node (nB 0) (lB (nB 0) 13) (fB 14)) (.node (nB 0) (lB (nB 0) 13) (fB 14))))) (.node (nB 0) (.node (nB 0) (.node (nB 0) (.node (nB 0) (lB
  (nB 0) 13) (fB 14)) (.node (nB 0) (lB (nB 0) 13) (fB 14))) (.node (nB 0) (.node (nB 0) (lB (nB 0) 13) (fB 14)) (.node (nB 0) (lB (nB 0) 13) (fB 14)))) (.node (nB 0) (.node (nB 0)
  (.node (nB 0) (.node (nB 0) (lB (nB 64) 12) (fB 13)) (fB 14)) (.node (nB 0) (lB (nB 0) 13) (fB 14))) (.node (nB 0) (.node (nB 0) (lB (nB 0) 13) (fB 14)) (lB (nB 0) 14))))) (.node
  (nB 0) (.node (nB 0) (.node (nB 0) (.node (nB 0) (.node (nB 0) (lB (nB 0) 13) (fB 14)) (.node (nB 0) (lB (nB 0) 13) (fB 14))) (.node (nB 0) (.node (nB 0) (lB (nB 0) 13) (fB 14))
  (.node (nB 0) (lB (nB 0) 13) (fB 14)))) (.node (nB 0) (.node (nB 0) (.node (nB 0) (lB (nB 0) 13) (fB 14)) (.node (nB 0) (lB (nB 0) 13) (fB 14))) (.node (nB 0) (.node (nB 0) (lB (nB
  0) 13) (fB 14)) (.node (nB 0) (lB (nB 0) 13) (fB 14))))) (.node (nB 0) (.node (nB 0) (.node (nB 0) (.node (nB 0) (lB (nB 0) 13) (fB 14)) (.node (nB 0) (lB (nB 0) 13) (fB 14)))
  (.node (nB 0) (.node (nB 0) (lB (nB 0) 13) (fB 14)) (.node (nB 0) (lB (nB 0) 13) (fB 14)))) (.node (nB 0) (.node (nB 0) (.node (nB 0) (lB (nB 0) 13) (fB 14)) (.node (nB 0) (lB (nB
  0) 13) (fB 14))) (.node (nB 0) (.node (nB 0) (lB (nB 0) 13) (fB 14)) (lB (nB 0) 14)))))) (.node (nB 255) (.node (nB 0) (.node (nB 0) (.node (nB 0) (.node (nB 0) (.node (nB 0)
  (.node (nB 0) (lB (nB 1) 12) (fB 13)) (fB 14)) (.node (nB 0) (lB (nB 0) 13) (fB 14))) (.node (nB 0) (.node (nB 0) (lB (nB 0) 13) (fB 14)) (.node (nB 0) (lB (nB 0) 13) (fB 14))))
  (.node (nB 0) (.node (nB 0) (.node (nB 0) (lB (nB 55) 13) (fB 14)) (.node (nB 0) (lB (nB 0) 13) (fB 14))) (.node (nB 0) (.node (nB 0) (lB (nB 0) 13) (fB 14)) (.node (nB 0) (lB (nB
  0) 13) (fB 14))))) (.node (nB 0) (.node (nB 0) (.node (nB 0) (.node (nB 0) (lB (nB 0) 13) (fB 14)) (.node (nB 0) (lB (nB 0) 13) (fB 14))) (.node (nB 0) (.node (nB 0) (lB (nB 0) 13)
  (fB 14)) (.node (nB 0) (lB (nB 0) 13) (fB 14)))) (.node (nB 0) (.node (nB 0) (.node (nB 0) (lB (nB 0) 13) (fB 14)) (.node (nB 0) (lB (nB 0) 13) (fB 14))) (.node (nB 0) (.node (nB
  0) (lB (nB 0) 13) (fB 14)) (lB (nB 0) 14))))) (.node (nB 0) (.node (nB 0) (.node (nB 0) (.node (nB 0) (.node (nB 0) (lB (nB 0) 13) (fB 14)) (.node (nB 0) (lB (nB 0) 13) (fB 14)))
  (.node (nB 0) (.node (nB 0) (lB (nB 0) 13) (fB 14)) (.node (nB 0) (lB (nB 0) 13) (fB 14)))) (.node (nB 0) (.node (nB 0) (.node (nB 0) (.node (nB 0) (lB (nB 2) 12) (fB 13)) (fB 14))
  (.node (nB 0) (lB (nB 0) 13) (fB 14))) (.node (nB 0) (.node (nB 0) (lB (nB 0) 13) (fB 14)) (.node (nB 0) (lB (nB 0) 13) (fB 14))))) (.node (nB 0) (.node (nB 0) (.node (nB 0) (.node
  (nB 0) (lB (nB 0) 13) (fB 14)) (.node (nB 0) (lB (nB 0) 13) (fB 14))) (.node (nB 0) (.node (nB 0) (lB (nB 0) 13) (fB 14)) (.node (nB 0) (lB (nB 0) 13) (fB 14)))) (.node (nB 0)
  (.node (nB 0) (.node (nB 0) (lB (nB 0) 13) (fB 14)) (.node (nB 0) (lB (nB 0) 13) (fB 14))) (.node (nB 0) (.node (nB 0) (lB (nB 0) 13) (fB 14)) (lB (nB 0) 14))))))) (.node (nB 0)
  (.node (nB 0) (.node (nB 0) (.node (nB 0) (.node (nB 0) (.node (nB 0) (.node (nB 0) (lB (nB 0) 13) (fB 14)) (.node (nB 0) (lB (nB 0) 13) (fB 14))) (.node (nB 0) (.node (nB 0) (lB
  (nB 0) 13) (fB 14)) (.node (nB 0) (lB (nB 0) 13) (fB 14)))) (.node (nB 0) (.node (nB 0) (.node (nB 0) (.node (nB 0) (lB (nB 69) 12) (fB 13)) (fB 14)) (.node (nB 0) (lB (nB 0) 13)
  (fB 14))) (.node (nB 0) (.node (nB 0) (lB (nB 0) 13) (fB 14)) (.node (nB 0) (lB (nB 0) 13) (fB 14))))) (.node (nB 0) (.node (nB 0) (.node (nB 0) (.node (nB 0) (lB (nB 0) 13) (fB
  14)) (.node (nB 0) (lB (nB 0) 13) (fB 14))) (.node (nB 0) (.node (nB 0) (lB (nB 0) 13) (fB 14)) (.node (nB 0) (lB (nB 0) 13) (fB 14)))) (.node (nB 0) (.node (nB 0) (.node (nB 0)
  (lB (nB 0) 13) (fB 14)) (.node (nB 0) (lB (nB 0) 13) (fB 14))) (.node (nB 0) (.node (nB 0) (lB (nB 0) 13) (fB 14)) (lB (nB 0) 14))))) (.node (nB 0) (.node (nB 0) (.node (nB 0)
  (.node (nB 0) (.node (nB 0) (lB (nB 0) 13) (fB 14)) (.node (nB 0) (lB (nB 0) 13) (fB 14))) (.node (nB 0) (.node (nB 0) (lB (nB 0) 13) (fB 14)) (.node (nB 0) (lB (nB 0) 13) (fB
  14)))) (.node (nB 0) (.node (nB 0) (.node (nB 0) (lB (nB 0) 13) (fB 14)) (.node (nB 0) (lB (nB 0) 13) (fB 14))) (.node (nB 0) (.node (nB 0) (lB (nB 0) 13) (fB 14)) (.node (nB 0)
  (lB (nB 0) 13) (fB 14))))) (.node (nB 0) (.node (nB 0) (.node (nB 0) (.node (nB 0) (lB (nB 0) 13) (fB 14)) (.node (nB 0) (lB (nB 0) 13) (fB 14))) (.node (nB 0) (.node (nB 0) (lB
  (nB 0) 13) (fB 14)) (.node (nB 0) (lB (nB 0) 13) (fB 14)))) (.node (nB 0) (.node (nB 0) (.node (nB 0) (lB (nB 0) 13) (fB 14)) (.node (nB 0) (lB (nB 0) 13) (fB 14))) (.node (nB 0)
  (.node (nB 0) (lB (nB 0) 13) (fB 14)) (lB (nB 0) 14)))))) (.node (nB 255) (.node (nB 0) (.node (nB 0) (.node (nB 0) (.node (nB 0) (.node (nB 0) (lB (nB 0) 13) (fB 14)) (.node (nB
  0) (lB (nB 0) 13) (fB 14))) (.node (nB 0) (.node (nB 0) (lB (nB 0) 13) (fB 14)) (.node (nB 0) (lB (nB 0) 13) (fB 14)))) (.node (nB 0) (.node (nB 0) (.node (nB 0) (lB (nB 0) 13) (fB
  14)) (.node (nB 0) (lB (nB 0) 13) (fB 14))) (.node (nB 0) (.node (nB 0) (lB (nB 0) 13) (fB 14)) (.node (nB 0) (lB (nB 0) 13) (fB 14))))) (.node (nB 0) (.node (nB 0) (.node (nB 0)
  (.node (nB 0) (lB (nB 0) 13) (fB 14)) (.node (nB 0) (lB (nB 0) 13) (fB 14))) (.node (nB 0) (.node (nB 0) (lB (nB 0) 13) (fB 14)) (.node (nB 0) (lB (nB 0) 13) (fB 14)))) (.node (nB
  0) (.node (nB 0) (.node (nB 0) (lB (nB 0) 13) (fB 14)) (.node (nB 0) (lB (nB 0) 13) (fB 14))) (.node (nB 0) (.node (nB 0) (lB (nB 0) 13) (fB 14)) (lB (nB 0) 14))))) (.node (nB 0)
  (.node (nB 0) (.node (nB 0) (.node (nB 0) (.node (nB 0) (lB (nB 0) 13) (fB 14)) (.node (nB 0) (lB (nB 0) 13) (fB 14))) (.node (nB 0) (.node (nB 0) (lB (nB 0) 13) (fB 14)) (.node
  (nB 0) (lB (nB 0) 13) (fB 14)))) (.node (nB 0) (.node (nB 0) (.node (nB 0) (lB (nB 0) 13) (fB 14)) (.node (nB 0) (lB (nB 0) 13) (fB 14))) (.node (nB 0) (.node (nB 0) (lB (nB 0) 13)
  (fB 14)) (.node (nB 0) (lB (nB 0) 13) (fB 14))))) (.node (nB 0) (.node (nB 0) (.node (nB 0) (.node (nB 0) (lB (nB 0) 13) (fB 14)) (.node (nB 0) (lB (nB 0) 13) (fB 14))) (.node (nB
  0) (.node (nB 0) (lB (nB 0) 13) (fB 14)) (.node (nB 0) (lB (nB 0) 13) (fB 14)))) (.node (nB 0) (.node (nB 0) (.node (nB 0) (lB (nB 0) 13) (fB 14)) (.node (nB 0) (lB (nB 0) 13) (fB
  14))) (.node (nB 0) (.node (nB 0) (lB (nB 0) 13) (fB 14)) (lB (nB 0) 14)))))))) (.node (nB 73) (.node (nB 0) (.node (nB 0) (.node (nB 0) (.node (nB 0) (.node (nB 0) (.node (nB 0)
  (.node (nB 0) (lB (nB 0) 13) (fB 14)) (.node (nB 0) (lB (nB 0) 13) (fB 14))) (.node (nB 0) (.node (nB 0) (lB (nB 0) 13) (fB 14)) (.node (nB 0) (lB (nB 0) 13) (fB 14)))) (.node (nB
  0) (.node (nB 0) (.node (nB 0) (lB (nB 0) 13) (fB 14)) (.node (nB 0) (lB (nB 0) 13) (fB 14))) (.node (nB 0) (.node (nB 0) (lB (nB 0) 13) (fB 14)) (.node (nB 0) (lB (nB 0) 13) (fB
  14))))) (.node (nB 0) (.node (nB 0) (.node (nB 0) (.node (nB 0) (lB (nB 0) 13) (fB 14)) (.node (nB 0) (lB (nB 0) 13) (fB 14))) (.node (nB 0) (.node (nB 0) (lB (nB 0) 13) (fB 14))
  (.node (nB 0) (lB (nB 0) 13) (fB 14)))) (.node (nB 0) (.node (nB 0) (.node (nB 0) (lB (nB 0) 13) (fB 14)) (.node (nB 0) (lB (nB 0) 13) (fB 14))) (.node (nB 0) (.node (nB 0) (lB (nB
  0) 13) (fB 14)) (lB (nB 0) 14))))) (.node (nB 0) (.node (nB 0) (.node (nB 0) (.node (nB 0) (.node (nB 0) (lB (nB 0) 13) (fB 14)) (.node (nB 0) (lB (nB 0) 13) (fB 14))) (.node (nB
  0) (.node (nB 0) (lB (nB 0) 13) (fB 14)) (.node (nB 0) (lB (nB 0) 13) (fB 14)))) (.node (nB 0) (.node (nB 0) (.node (nB 0) (lB (nB 0) 13) (fB 14)) (.node (nB 0) (lB (nB 0) 13) (fB
  14))) (.node (nB 0) (.node (nB 0) (lB (nB 0) 13) (fB 14)) (.node (nB 0) (lB (nB 0) 13) (fB 14))))) (.node (nB 0) (.node (nB 0) (.node (nB 0) (.node (nB 0) (lB (nB 0) 13) (fB 14))
  (.node (nB 0) (lB (nB 0) 13) (fB 14))) (.node (nB 0) (.node (nB 0) (lB (nB 0) 13) (fB 14)) (.node (nB 0) (lB (nB 0) 13) (fB 14)))) (.node (nB 0) (.node (nB 0) (.node (nB 0) (lB (nB
  0) 13) (fB 14)) (.node (nB 0) (lB (nB 0) 13) (fB 14))) (.node (nB 0) (.node (nB 0) (lB (nB 0) 13) (fB 14)) (lB (nB 0) 14)))))) (.node (nB 255) (.node (nB 0) (.node (nB 0) (.node
  (nB 0) (.node (nB 0) (.node (nB 0) (lB (nB 0) 13) (fB 14)) (.node (nB 0) (lB (nB 0) 13) (fB 14))) (.node (nB 0) (.node (nB 0) (lB (nB 0) 13) (fB 14)) (.node (nB 0) (lB (nB 0) 13)
  (fB 14)))) (.node (nB 0) (.node (nB 0) (.node (nB 0) (lB (nB 0) 13) (fB 14)) (.node (nB 0) (lB (nB 0) 13) (fB 14))) (.node (nB 0) (.node (nB 0) (lB (nB 0) 13) (fB 14)) (.node (nB
  0) (lB (nB 0) 13) (fB 14))))) (.node (nB 0) (.node (nB 0) (.node (nB 0) (.node (nB 0) (lB (nB 0) 13) (fB 14)) (.node (nB 0) (lB (nB 0) 13) (fB 14))) (.node (nB 0) (.node (nB 0) (lB
  (nB 0) 13) (fB 14)) (.node (nB 0) (lB (nB 0) 13) (fB 14)))) (.node (nB 0) (.node (nB 0) (.node (nB 0) (lB (nB 0) 13) (fB 14)) (.node (nB 0) (lB (nB 0) 13) (fB 14))) (.node (nB 0)
  (.node (nB 0) (lB (nB 0) 13) (fB 14)) (lB (nB 0) 14))))) (.node (nB 0) (.node (nB 0) (.node (nB 0) (.node (nB 0) (.node (nB 0) (lB (nB 0) 13) (fB 14)) (.node (nB 0) (lB (nB 0) 13)
  (fB 14))) (.node (nB 0) (.node (nB 0) (lB (nB 0) 13) (fB 14)) (.node (nB 0) (lB (nB 0) 13) (fB 14)))) (.node (nB 0) (.node (nB 0) (.node (nB 0) (lB (nB 0) 13) (fB 14)) (.node (nB
  0) (lB (nB 0) 13) (fB 14))) (.node (nB 0) (.node (nB 0) (lB (nB 0) 13) (fB 14)) (.node (nB 0) (lB (nB 0) 13) (fB 14))))) (.node (nB 0) (.node (nB 0) (.node (nB 0) (.node (nB 0) (lB
  (nB 0) 13) (fB 14)) (.node (nB 0) (lB (nB 0) 13) (fB 14))) (.node (nB 0) (.node (nB 0) (lB (nB 0) 13) (fB 14)) (.node (nB 0) (lB (nB 0) 13) (fB 14)))) (.node (nB 0) (.node (nB 0)
  (.node (nB 0) (lB (nB 0) 13) (fB 14)) (.node (nB 0) (lB (nB 0) 13) (fB 14))) (.node (nB 0) (.node (nB 0) (lB (nB 0) 13) (fB 14)) (lB (nB 0) 14))))))) (.node (nB 0) (.node (nB 0)
  (.node (nB 0) (.node (nB 0) (.node (nB 0) (.node (nB 0) (.node (nB 0) (lB (nB 0) 13) (fB 14)) (.node (nB 0) (lB (nB 0) 13) (fB 14))) (.node (nB 0) (.node (nB 0) (lB (nB 0) 13) (fB
  14)) (.node (nB 0) (lB (nB 0) 13) (fB 14)))) (.node (nB 0) (.node (nB 0) (.node (nB 0) (.node (nB 0) (lB (nB 69) 12) (fB 13)) (fB 14)) (.node (nB 0) (lB (nB 0) 13) (fB 14))) (.node
  (nB 0) (.node (nB 0) (lB (nB 0) 13) (fB 14)) (.node (nB 0) (lB (nB 0) 13) (fB 14))))) (.node (nB 0) (.node (nB 0) (.node (nB 0) (.node (nB 0) (lB (nB 0) 13) (fB 14)) (.node (nB 0)
  (lB (nB 0) 13) (fB 14))) (.node (nB 0) (.node (nB 0) (lB (nB 0) 13) (fB 14)) (.node (nB 0) (lB (nB 0) 13) (fB 14)))) (.node (nB 0) (.node (nB 0) (.node (nB 0) (lB (nB 0) 13) (fB
  14)) (.node (nB 0) (lB (nB 0) 13) (fB 14))) (.node (nB 0) (.node (nB 0) (lB (nB 0) 13) (fB 14)) (lB (nB 0) 14))))) (.node (nB 0) (.node (nB 0) (.node (nB 0) (.node (nB 0) (.node
  (nB 0) (lB (nB 0) 13) (fB 14)) (.node (nB 0) (lB (nB 0) 13) (fB 14))) (.node (nB 0) (.node (nB 0) (lB (nB 0) 13) (fB 14)) (.node (nB 0) (lB (nB 0) 13) (fB 14)))) (.node (nB 0)
  (.node (nB 0) (.node (nB 0) (lB (nB 0) 13) (fB 14)) (.node (nB 0) (lB (nB 0) 13) (fB 14))) (.node (nB 0) (.node (nB 0) (lB (nB 0) 13) (fB 14)) (.node (nB 0) (lB (nB 0) 13) (fB
  14))))) (.node (nB 0) (.node (nB 0) (.node (nB 0) (.node (nB 0) (lB (nB 0) 13) (fB 14)) (.node (nB 0) (lB (nB 0) 13) (fB 14))) (.node (nB 0) (.node (nB 0) (lB (nB 0) 13) (fB 14))
  (.node (nB 0) (lB (nB 0) 13) (fB 14)))) (.node (nB 0) (.node (nB 0) (.node (nB 0) (lB (nB 0) 13) (fB 14)) (.node (nB 0) (lB (nB 0) 13) (fB 14))) (.node (nB 0) (.node (nB 0) (lB (nB
  0) 13) (fB 14)) (lB (nB 0) 14)))))) (.node (nB 255) (.node (nB 0) (.node (nB 0) (.node (nB 0) (.node (nB 0) (.node (nB 0) (lB (nB 0) 13) (fB 14)) (.node (nB 0) (lB (nB 0) 13) (fB
  14))) (.node (nB 0) (.node (nB 0) (lB (nB 0) 13) (fB 14)) (.node (nB 0) (lB (nB 0) 13) (fB 14)))) (.node (nB 0) (.node (nB 0) (.node (nB 0) (lB (nB 0) 13) (fB 14)) (.node (nB 0)
  (lB (nB 0) 13) (fB 14))) (.node (nB 0) (.node (nB 0) (lB (nB 0) 13) (fB 14)) (.node (nB 0) (lB (nB 0) 13) (fB 14))))) (.node (nB 0) (.node (nB 0) (.node (nB 0) (.node (nB 0) (lB
  (nB 0) 13) (fB 14)) (.node (nB 0) (lB (nB 0) 13) (fB 14))) (.node (nB 0) (.node (nB 0) (lB (nB 0) 13) (fB 14)) (.node (nB 0) (lB (nB 0) 13) (fB 14)))) (.node (nB 0) (.node (nB 0)
  (.node (nB 0) (lB (nB 0) 13) (fB 14)) (.node (nB 0) (lB (nB 0) 13) (fB 14))) (.node (nB 0) (.node (nB 0) (lB (nB 0) 13) (fB 14)) (lB (nB 0) 14))))) (.node (nB 0) (.node (nB 0)
  (.node (nB 0) (.node (nB 0) (.node (nB 0) (lB (nB 0) 13) (fB 14)) (.node (nB 0) (lB (nB 0) 13) (fB 14))) (.node (nB 0) (.node (nB 0) (lB (nB 0) 13) (fB 14)) (.node (nB 0) (lB (nB
  0) 13) (fB 14)))) (.node (nB 0) (.node (nB 0) (.node (nB 0) (lB (nB 0) 13) (fB 14)) (.node (nB 0) (lB (nB 0) 13) (fB 14))) (.node (nB 0) (.node (nB 0) (lB (nB 0) 13) (fB 14))
  (.node (nB 0) (lB (nB 0) 13) (fB 14))))) (.node (nB 0) (.node (nB 0) (.node (nB 0) (.node (nB 0) (lB (nB 0) 13) (fB 14)) (.node (nB 0) (lB (nB 0) 13) (fB 14))) (.node (nB 0) (.node
  (nB 0) (lB (nB 0) 13) (fB 14)) (.node (nB 0) (lB (nB 0) 13) (fB 14)))) (.node (nB 0) (.node (nB 0) (.node (nB 0) (lB (nB 0) 13) (fB 14)) (.node (nB 0) (lB (nB 0) 13) (fB 14)))
  (.node (nB 0) (.node (nB 0) (lB (nB 0) 13) (fB 14)) (lB (nB 0) 14)))))))))) true false) 12) (fD 13)) (fD 14))) (fD 16))))) (.node .dead (.node .dead (.node .dead (.node .dead (fD
  16) (.node .dead (.node .dead (fD 14) (lD (.cells 25 1 384 (.node (nU 5929342154728227142) (.node (nU 3072) (.node (nU 18446744073709548543) (.node (nU 0) (.node (nU 0) (.node (nU
  0) (.node (nU 0) (.node (nU 0) (lA (nU 0) 15) (lA (nU 0) 15)) (.node (nU 0) (lA (nU 0) 15) (fA 16))) (.node (nU 0) (.node (nU 0) (lA (nU 0) 15) (fA 16)) (.node (nU 0) (lA (nU 0)
  15) (fA 16)))) (.node (nU 0) (.node (nU 0) (.node (nU 0) (lA (nU 0) 15) (fA 16)) (.node (nU 0) (lA (nU 0) 15) (fA 16))) (.node (nU 0) (.node (nU 0) (lA (nU 0) 15) (fA 16)) (.node
  (nU 0) (lA (nU 0) 15) (fA 16))))) (.node (nU 0) (.node (nU 0) (.node (nU 0) (.node (nU 0) (lA (nU 0) 15) (fA 16)) (.node (nU 0) (lA (nU 0) 15) (fA 16))) (.node (nU 0) (.node (nU 0)
  (lA (nU 0) 15) (fA 16)) (.node (nU 0) (lA (nU 0) 15) (fA 16)))) (.node (nU 0) (.node (nU 0) (.node (nU 0) (lA (nU 0) 15) (fA 16)) (.node (nU 0) (lA (nU 0) 15) (fA 16))) (.node (nU
  0) (.node (nU 0) (lA (nU 0) 15) (fA 16)) (.node (nU 0) (lA (nU 0) 15) (fA 16)))))) (.node (nU 0) (.node (nU 0) (.node (nU 0) (.node (nU 0) (.node (nU 0) (lA (nU 0) 15) (fA 16))
  (.node (nU 0) (lA (nU 0) 15) (fA 16))) (.node (nU 0) (.node (nU 0) (lA (nU 0) 15) (fA 16)) (.node (nU 0) (lA (nU 0) 15) (fA 16)))) (.node (nU 0) (.node (nU 0) (.node (nU 0) (lA (nU
  0) 15) (fA 16)) (.node (nU 0) (lA (nU 0) 15) (fA 16))) (.node (nU 0) (.node (nU 0) (lA (nU 0) 15) (fA 16)) (.node (nU 0) (lA (nU 0) 15) (fA 16))))) (.node (nU 0) (.node (nU 0)
  (.node (nU 0) (.node (nU 0) (lA (nU 2) 15) (fA 16)) (.node (nU 0) (lA (nU 0) 15) (fA 16))) (.node (nU 0) (.node (nU 0) (lA (nU 0) 15) (fA 16)) (.node (nU 0) (lA (nU 0) 15) (fA
  16)))) (.node (nU 0) (.node (nU 0) (.node (nU 0) (lA (nU 0) 15) (fA 16)) (.node (nU 0) (lA (nU 0) 15) (fA 16))) (.node (nU 0) (.node (nU 0) (lA (nU 0) 15) (fA 16)) (.node (nU 0)
  (lA (nU 0) 15) (fA 16))))))) (.node (nU 0) (.node (nU 0) (.node (nU 0) (.node (nU 0) (.node (nU 0) (.node (nU 0) (lA (nU 1) 15) (fA 16)) (.node (nU 0) (lA (nU 0) 15) (fA 16)))
  (.node (nU 0) (.node (nU 0) (lA (nU 0) 15) (fA 16)) (.node (nU 0) (lA (nU 0) 15) (fA 16)))) (.node (nU 0) (.node (nU 0) (.node (nU 0) (lA (nU 0) 15) (fA 16)) (.node (nU 0) (lA (nU
  0) 15) (fA 16))) (.node (nU 0) (.node (nU 0) (lA (nU 0) 15) (fA 16)) (.node (nU 0) (lA (nU 0) 15) (fA 16))))) (.node (nU 0) (.node (nU 0) (.node (nU 0) (.node (nU 55) (lA (nU 0)
  15) (fA 16)) (.node (nU 0) (lA (nU 0) 15) (fA 16))) (.node (nU 0) (.node (nU 0) (lA (nU 0) 15) (fA 16)) (.node (nU 0) (lA (nU 0) 15) (fA 16)))) (.node (nU 0) (.node (nU 0) (.node
  (nU 0) (lA (nU 0) 15) (fA 16)) (.node (nU 0) (lA (nU 0) 15) (fA 16))) (.node (nU 0) (.node (nU 0) (lA (nU 0) 15) (fA 16)) (.node (nU 0) (lA (nU 0) 15) (fA 16)))))) (.node (nU 0)
  (.node (nU 0) (.node (nU 0) (.node (nU 0) (.node (nU 0) (lA (nU 0) 15) (fA 16)) (.node (nU 0) (lA (nU 0) 15) (fA 16))) (.node (nU 0) (.node (nU 0) (lA (nU 0) 15) (fA 16)) (.node
  (nU 0) (lA (nU 0) 15) (fA 16)))) (.node (nU 0) (.node (nU 0) (.node (nU 0) (lA (nU 0) 15) (fA 16)) (.node (nU 0) (lA (nU 0) 15) (fA 16))) (.node (nU 0) (.node (nU 0) (lA (nU 0) 15)
  (fA 16)) (.node (nU 0) (lA (nU 0) 15) (fA 16))))) (.node (nU 0) (.node (nU 0) (.node (nU 0) (.node (nU 0) (lA (nU 0) 15) (fA 16)) (.node (nU 0) (lA (nU 0) 15) (fA 16))) (.node (nU
  0) (.node (nU 0) (lA (nU 0) 15) (fA 16)) (.node (nU 0) (lA (nU 0) 15) (fA 16)))) (.node (nU 0) (.node (nU 0) (.node (nU 0) (lA (nU 0) 15) (fA 16)) (.node (nU 0) (lA (nU 0) 15) (fA
  16))) (.node (nU 0) (.node (nU 0) (lA (nU 0) 15) (fA 16)) (.node (nU 0) (lA (nU 0) 15) (fA 16)))))))) (.node (nU 2112) (.node (nU 0) (.node (nU 0) (.node (nU 0) (.node (nU 0)
  (.node (nU 0) (.node (nU 1) (lA (nU 3) 15) (fA 16)) (.node (nU 0) (lA (nU 0) 15) (fA 16))) (.node (nU 0) (.node (nU 0) (lA (nU 0) 15) (fA 16)) (.node (nU 0) (lA (nU 0) 15) (fA
  16)))) (.node (nU 0) (.node (nU 0) (.node (nU 0) (lA (nU 7) 15) (fA 16)) (.node (nU 0) (lA (nU 0) 15) (fA 16))) (.node (nU 0) (.node (nU 0) (lA (nU 0) 15) (fA 16)) (.node (nU 0)
  (lA (nU 0) 15) (fA 16))))) (.node (nU 0) (.node (nU 0) (.node (nU 0) (.node (nU 1) (lA (nU 5495893775785918464) 15) (fA 16)) (.node (nU 0) (lA (nU 0) 15) (fA 16))) (.node (nU 0)
  (.node (nU 0) (lA (nU 0) 15) (fA 16)) (.node (nU 0) (lA (nU 0) 15) (fA 16)))) (.node (nU 0) (.node (nU 0) (.node (nU 0) (lA (nU 0) 15) (fA 16)) (.node (nU 0) (lA (nU 0) 15) (fA
  16))) (.node (nU 0) (.node (nU 0) (lA (nU 0) 15) (fA 16)) (.node (nU 0) (lA (nU 0) 15) (fA 16)))))) (.node (nU 0) (.node (nU 0) (.node (nU 0) (.node (nU 0) (.node (nU 0) (lA (nU 0)
  15) (fA 16)) (.node (nU 0) (lA (nU 0) 15) (fA 16))) (.node (nU 0) (.node (nU 0) (lA (nU 0) 15) (fA 16)) (.node (nU 0) (lA (nU 0) 15) (fA 16)))) (.node (nU 0) (.node (nU 0) (.node
  (nU 0) (lA (nU 0) 15) (fA 16)) (.node (nU 0) (lA (nU 0) 15) (fA 16))) (.node (nU 0) (.node (nU 0) (lA (nU 0) 15) (fA 16)) (.node (nU 0) (lA (nU 0) 15) (fA 16))))) (.node (nU 0)
  (.node (nU 0) (.node (nU 0) (.node (nU 0) (lA (nU 2112) 15) (fA 16)) (.node (nU 0) (lA (nU 0) 15) (fA 16))) (.node (nU 0) (.node (nU 0) (lA (nU 0) 15) (fA 16)) (.node (nU 0) (lA
  (nU 0) 15) (fA 16)))) (.node (nU 0) (.node (nU 0) (.node (nU 0) (lA (nU 0) 15) (fA 16)) (.node (nU 0) (lA (nU 0) 15) (fA 16))) (.node (nU 0) (.node (nU 0) (lA (nU 0) 15) (fA 16))
  (.node (nU 0) (lA (nU 0) 15) (fA 16))))))) (.node (nU 0) (.node (nU 0) (.node (nU 0) (.node (nU 0) (.node (nU 0) (.node (nU 0) (lA (nU 0) 15) (fA 16)) (.node (nU 0) (lA (nU 0) 15)
  (fA 16))) (.node (nU 0) (.node (nU 0) (lA (nU 0) 15) (fA 16)) (.node (nU 0) (lA (nU 0) 15) (fA 16)))) (.node (nU 0) (.node (nU 0) (.node (nU 0) (lA (nU 0) 15) (fA 16)) (.node (nU
  0) (lA (nU 0) 15) (fA 16))) (.node (nU 0) (.node (nU 0) (lA (nU 0) 15) (fA 16)) (.node (nU 0) (lA (nU 0) 15) (fA 16))))) (.node (nU 0) (.node (nU 0) (.node (nU 0) (.node (nU 0) (lA
  (nU 0) 15) (fA 16)) (.node (nU 0) (lA (nU 0) 15) (fA 16))) (.node (nU 0) (.node (nU 0) (lA (nU 0) 15) (fA 16)) (.node (nU 0) (lA (nU 0) 15) (fA 16)))) (.node (nU 0) (.node (nU 0)
  (.node (nU 0) (lA (nU 0) 15) (fA 16)) (.node (nU 0) (lA (nU 0) 15) (fA 16))) (.node (nU 0) (.node (nU 0) (lA (nU 0) 15) (fA 16)) (.node (nU 0) (lA (nU 0) 15) (fA 16)))))) (.node
  (nU 0) (.node (nU 0) (.node (nU 0) (.node (nU 0) (.node (nU 0) (lA (nU 0) 15) (fA 16)) (.node (nU 0) (lA (nU 0) 15) (fA 16))) (.node (nU 0) (.node (nU 0) (lA (nU 0) 15) (fA 16))
  (.node (nU 0) (lA (nU 0) 15) (fA 16)))) (.node (nU 0) (.node (nU 0) (.node (nU 0) (lA (nU 0) 15) (fA 16)) (.node (nU 0) (lA (nU 0) 15) (fA 16))) (.node (nU 0) (.node (nU 0) (lA (nU
  0) 15) (fA 16)) (.node (nU 0) (lA (nU 0) 15) (fA 16))))) (.node (nU 0) (.node (nU 0) (.node (nU 0) (.node (nU 0) (lA (nU 0) 15) (fA 16)) (.node (nU 0) (lA (nU 0) 15) (fA 16)))
  (.node (nU 0) (.node (nU 0) (lA (nU 0) 15) (fA 16)) (.node (nU 0) (lA (nU 0) 15) (fA 16)))) (.node (nU 0) (.node (nU 0) (.node (nU 0) (lA (nU 0) 15) (fA 16)) (.node (nU 0) (lA (nU
  0) 15) (fA 16))) (.node (nU 0) (.node (nU 0) (lA (nU 0) 15) (fA 16)) (.node (nU 0) (lA (nU 0) 15) (fA 16))))))))) false false) 13)) (fD 15))) (fD 17)) (fD 18)) (.node .dead (.node
  .dead (.node .dead (.node .dead (fD 15) (lD (.cells 198 7 7 (.node (nI 3072) (.node (.sl 794 0 0 3 (.k 3)) (lA (.ptr 799 0) 21) (lA (.ptr 801 0) 21)) (.node (.ptr 798 0) (lA (.ptr
  800 0) 21) (lA (.map 795) 21))) true false) 14)) (fD 16)) (fD 17)) (fD 18))))) (.node .dead (.node .dead (.node (.cells 128 7 7 (.node (.sl 793 0 0 384 (.u 793 0)) (.node (.sl 791
  0 0 384 (.u 791 0)) (lA (nU 0) 21) (lA (nU 0) 21)) (.node (.map 17) (lA (nU 0) 21) (lA (nU 0) 21))) true false) (fD 19) (.node .dead (.node .dead (.node .dead (fD 16) (.node .dead
  (.node .dead (fD 14) (lD (.cells 271 1 1 (lA (.sl 1800 0 0 15 (.u 1800 0)) 23) true false) 13)) (fD 15))) (fD 17)) (fD 18))) (.node .dead (.node .dead (.node .dead (.node .dead (fD
  16) (.node .dead (.node .dead (fD 14) (lD (.cells 25 1 384 (.node (nU 5929342154728227142) (.node (nU 3072) (.node (nU 18446744073709548543) (.node (nU 0) (.node (nU 0) (.node (nU
  0) (.node (nU 0) (.node (nU 0) (lA (nU 0) 15) (lA (nU 0) 15)) (.node (nU 0) (lA (nU 0) 15) (fA 16))) (.node (nU 0) (.node (nU 0) (lA (nU 0) 15) (fA 16)) (.node (nU 0) (lA (nU 0)
  15) (fA 16)))) (.node (nU 0) (.node (nU 0) (.node (nU 0) (lA (nU 0) 15) (fA 16)) (.node (nU 0) (lA (nU 0) 15) (fA 16))) (.node (nU 0) (.node (nU 0) (lA (nU 0) 15) (fA 16)) (.node
  (nU 0) (lA (nU 0) 15) (fA 16))))) (.node (nU 0) (.node (nU 0) (.node (nU 0) (.node (nU 0) (lA (nU 0) 15) (fA 16)) (.node (nU 0) (lA (nU 0) 15) (fA 16))) (.node (nU 0) (.node (nU 0)
  (lA (nU 0) 15) (fA 16)) (.node (nU 0) (lA (nU 0) 15) (fA 16)))) (.node (nU 0) (.node (nU 0) (.node (nU 0) (lA (nU 0) 15) (fA 16)) (.node (nU 0) (lA (nU 0) 15) (fA 16))) (.node (nU
  0) (.node (nU 0) (lA (nU 0) 15) (fA 16)) (.node (nU 0) (lA (nU 0) 15) (fA 16)))))) (.node (nU 0) (.node (nU 0) (.node (nU 0) (.node (nU 0) (.node (nU 0) (lA (nU 0) 15) (fA 16))
  (.node (nU 0) (lA (nU 0) 15) (fA 16))) (.node (nU 0) (.node (nU 0) (lA (nU 0) 15) (fA 16)) (.node (nU 0) (lA (nU 0) 15) (fA 16)))) (.node (nU 0) (.node (nU 0) (.node (nU 0) (lA (nU
  0) 15) (fA 16)) (.node (nU 0) (lA (nU 0) 15) (fA 16))) (.node (nU 0) (.node (nU 0) (lA (nU 0) 15) (fA 16)) (.node (nU 0) (lA (nU 0) 15) (fA 16))))) (.node (nU 0) (.node (nU 0)
  (.node (nU 0) (.node (nU 0) (lA (nU 2) 15) (fA 16)) (.node (nU 0) (lA (nU 0) 15) (fA 16))) (.node (nU 0) (.node (nU 0) (lA (nU 0) 15) (fA 16)) (.node (nU 0) (lA (nU 0) 15) (fA
  16)))) (.node (nU 0) (.node (nU 0) (.node (nU 0) (lA (nU 0) 15) (fA 16)) (.node (nU 0) (lA (nU 0) 15) (fA 16))) (.node (nU 0) (.node (nU 0) (lA (nU 0) 15) (fA 16)) (.node (nU 0)
  (lA (nU 0) 15) (fA 16))))))) (.node (nU 0) (.node (nU 0) (.node (nU 0) (.node (nU 0) (.node (nU 0) (.node (nU 0) (lA (nU 1) 15) (fA 16)) (.node (nU 0) (lA (nU 0) 15) (fA 16)))
  (.node (nU 0) (.node (nU 0) (lA (nU 0) 15) (fA 16)) (.node (nU 0) (lA (nU 0) 15) (fA 16)))) (.node (nU 0) (.node (nU 0) (.node (nU 0) (lA (nU 0) 15) (fA 16)) (.node (nU 0) (lA (nU
  0) 15) (fA 16))) (.node (nU 0) (.node (nU 0) (lA (nU 0) 15) (fA 16)) (.node (nU 0) (lA (nU 0) 15) (fA 16))))) (.node (nU 0) (.node (nU 0) (.node (nU 0) (.node (nU 55) (lA (nU 0)
  15) (fA 16)) (.node (nU 0) (lA (nU 0) 15) (fA 16))) (.node (nU 0) (.node (nU 0) (lA (nU 0) 15) (fA 16)) (.node (nU 0) (lA (nU 0) 15) (fA 16)))) (.node (nU 0) (.node (nU 0) (.node
  (nU 0) (lA (nU 0) 15) (fA 16)) (.node (nU 0) (lA (nU 0) 15) (fA 16))) (.node (nU 0) (.node (nU 0) (lA (nU 0) 15) (fA 16)) (.node (nU 0) (lA (nU 0) 15) (fA 16)))))) (.node (nU 0)
  (.node (nU 0) (.node (nU 0) (.node (nU 0) (.node (nU 0) (lA (nU 0) 15) (fA 16)) (.node (nU 0) (lA (nU 0) 15) (fA 16))) (.node (nU 0) (.node (nU 0) (lA (nU 0) 15) (fA 16)) (.node
  (nU 0) (lA (nU 0) 15) (fA 16)))) (.node (nU 0) (.node (nU 0) (.node (nU 0) (lA (nU 0) 15) (fA 16)) (.node (nU 0) (lA (nU 0) 15) (fA 16))) (.node (nU 0) (.node (nU 0) (lA (nU 0) 15)
  (fA 16)) (.node (nU 0) (lA (nU 0) 15) (fA 16))))) (.node (nU 0) (.node (nU 0) (.node (nU 0) (.node (nU 0) (lA (nU 0) 15) (fA 16)) (.node (nU 0) (lA (nU 0) 15) (fA 16))) (.node (nU
  0) (.node (nU 0) (lA (nU 0) 15) (fA 16)) (.node (nU 0) (lA (nU 0) 15) (fA 16)))) (.node (nU 0) (.node (nU 0) (.node (nU 0) (lA (nU 0) 15) (fA 16)) (.node (nU 0) (lA (nU 0) 15) (fA
  16))) (.node (nU 0) (.node (nU 0) (lA (nU 0) 15) (fA 16)) (.node (nU 0) (lA (nU 0) 15) (fA 16)))))))) (.node (nU 2112) (.node (nU 0) (.node (nU 0) (.node (nU 0) (.node (nU 0)
  (.node (nU 0) (.node (nU 1) (lA (nU 3) 15) (fA 16)) (.node (nU 0) (lA (nU 0) 15) (fA 16))) (.node (nU 0) (.node (nU 0) (lA (nU 0) 15) (fA 16)) (.node (nU 0) (lA (nU 0) 15) (fA
  16)))) (.node (nU 0) (.node (nU 0) (.node (nU 0) (lA (nU 7) 15) (fA 16)) (.node (nU 0) (lA (nU 0) 15) (fA 16))) (.node (nU 0) (.node (nU 0) (lA (nU 0) 15) (fA 16)) (.node (nU 0)
  (lA (nU 0) 15) (fA 16))))) (.node (nU 0) (.node (nU 0) (.node (nU 0) (.node (nU 1) (lA (nU 5495893775785918464) 15) (fA 16)) (.node (nU 0) (lA (nU 0) 15) (fA 16))) (.node (nU 0)
  (.node (nU 0) (lA (nU 0) 15) (fA 16)) (.node (nU 0) (lA (nU 0) 15) (fA 16)))) (.node (nU 0) (.node (nU 0) (.node (nU 0) (lA (nU 0) 15) (fA 16)) (.node (nU 0) (lA (nU 0) 15) (fA
  16))) (.node (nU 0) (.node (nU 0) (lA (nU 0) 15) (fA 16)) (.node (nU 0) (lA (nU 0) 15) (fA 16)))))) (.node (nU 0) (.node (nU 0) (.node (nU 0) (.node (nU 0) (.node (nU 0) (lA (nU 0)
  15) (fA 16)) (.node (nU 0) (lA (nU 0) 15) (fA 16))) (.node (nU 0) (.node (nU 0) (lA (nU 0) 15) (fA 16)) (.node (nU 0) (lA (nU 0) 15) (fA 16)))) (.node (nU 0) (.node (nU 0) (.node
  (nU 0) (lA (nU 0) 15) (fA 16)) (.node (nU 0) (lA (nU 0) 15) (fA 16))) (.node (nU 0) (.node (nU 0) (lA (nU 0) 15) (fA 16)) (.node (nU 0) (lA (nU 0) 15) (fA 16))))) (.node (nU 0)
  (.node (nU 0) (.node (nU 0) (.node (nU 0) (lA (nU 2112) 15) (fA 16)) (.node (nU 0) (lA (nU 0) 15) (fA 16))) (.node (nU 0) (.node (nU 0) (lA (nU 0) 15) (fA 16)) (.node (nU 0) (lA
  (nU 0) 15) (fA 16)))) (.node (nU 0) (.node (nU 0) (.node (nU 0) (lA (nU 0) 15) (fA 16)) (.node (nU 0) (lA (nU 0) 15) (fA 16))) (.node (nU 0) (.node (nU 0) (lA (nU 0) 15) (fA 16))
  (.node (nU 0) (lA (nU 0) 15) (fA 16))))))) (.node (nU 0) (.node (nU 0) (.node (nU 0) (.node (nU 0) (.node (nU 0) (.node (nU 0) (lA (nU 0) 15) (fA 16)) (.node (nU 0) (lA (nU 0) 15)
  (fA 16))) (.node (nU 0) (.node (nU 0) (lA (nU 0) 15) (fA 16)) (.node (nU 0) (lA (nU 0) 15) (fA 16)))) (.node (nU 0) (.node (nU 0) (.node (nU 0) (lA (nU 0) 15) (fA 16)) (.node (nU
  0) (lA (nU 0) 15) (fA 16))) (.node (nU 0) (.node (nU 0) (lA (nU 0) 15) (fA 16)) (.node (nU 0) (lA (nU 0) 15) (fA 16))))) (.node (nU 0) (.node (nU 0) (.node (nU 0) (.node (nU 0) (lA
  (nU 0) 15) (fA 16)) (.node (nU 0) (lA (nU 0) 15) (fA 16))) (.node (nU 0) (.node (nU 0) (lA (nU 0) 15) (fA 16)) (.node (nU 0) (lA (nU 0) 15) (fA 16)))) (.node (nU 0) (.node (nU 0)
  (.node (nU 0) (lA (nU 0) 15) (fA 16)) (.node (nU 0) (lA (nU 0) 15) (fA 16))) (.node (nU 0) (.node (nU 0) (lA (nU 0) 15) (fA 16)) (.node (nU 0) (lA (nU 0) 15) (fA 16)))))) (.node
  (nU 0) (.node (nU 0) (.node (nU 0) (.node (nU 0) (.node (nU 0) (lA (nU 0) 15) (fA 16)) (.node (nU 0) (lA (nU 0) 15) (fA 16))) (.node (nU 0) (.node (nU 0) (lA (nU 0) 15) (fA 16))
  (.node (nU 0) (lA (nU 0) 15) (fA 16)))) (.node (nU 0) (.node (nU 0) (.node (nU 0) (lA (nU 0) 15) (fA 16)) (.node (nU 0) (lA (nU 0) 15) (fA 16))) (.node (nU 0) (.node (nU 0) (lA (nU
  0) 15) (fA 16)) (.node (nU 0) (lA (nU 0) 15) (fA 16))))) (.node (nU 0) (.node (nU 0) (.node (nU 0) (.node (nU 0) (lA (nU 0) 15) (fA 16)) (.node (nU 0) (lA (nU 0) 15) (fA 16)))
  (.node (nU 0) (.node (nU 0) (lA (nU 0) 15) (fA 16)) (.node (nU 0) (lA (nU 0) 15) (fA 16)))) (.node (nU 0) (.node (nU 0) (.node (nU 0) (lA (nU 0) 15) (fA 16)) (.node (nU 0) (lA (nU
  0) 15) (fA 16))) (.node (nU 0) (.node (nU 0) (lA (nU 0) 15) (fA 16)) (.node (nU 0) (lA (nU 0) 15) (fA 16))))))))) false false) 13)) (fD 15))) (.node .dead (.node .dead (fD 15)
  (.node .dead (fD 14) (lD (.cells 125 3 3 (.node (.ptr 901 0) (lA (.ptr 1679 0) 22) (lA (.ptr 1865 0) 22)) true false) 13))) (fD 16))) (.node .dead (fD 17) (.node .dead (.node .dead
  (fD 15) (lD (.cells 66 13 13 (.node (.ptr 873 0) (.node (nI 1) (.node (.ptr 875 0) (lA (.fn (.func 51) [(.ptr 874 0)] []) 20) (lA (.str (bs [])) 20)) (.node (nU 0) (lA (nI 12) 20)
  (fA 21))) (.node (nU 1) (.node .nil (lA (.bool true) 20) (lA .nilsl 20)) (.node (.ifc 29 (.ptr 875 0)) (lA (nI 12) 20) (fA 21)))) true false) 14)) (fD 16)))) (.node .dead (.node
  .dead (.node .dead (.node .dead (fD 15) (lD (.cells 205 2 6 (.node (nI 0) (.node (nU 0) (lA (nU 1) 21) (lA (nU 0) 21)) (.node (nI 3) (lA (nI 0) 21) (fA 22))) true false) 14)) (fD
  16)) (fD 17)) (fD 18)))) (.node .dead (fD 20) (.node .dead (.node .dead (.node .dead (.node .dead (fD 16) (.node .dead (.node .dead (fD 14) (lD (.map [⟨(nU 2112), (nI 2), 1⟩] 2)
  13)) (fD 15))) (fD 17)) (fD 18)) (.node .dead (.node .dead (.node .dead (.node .dead (fD 15) (lD (.cells 271 1 1 (lA .nilsl 23) true false) 14)) (fD 16)) (fD 17)) (.node .dead
  (.node .dead (.node .dead (fD 15) (.node .dead (fD 14) (lD (.cells 26 1 5 (.node (nU 2304) (.node (nU 2688) (lA (nU 2880) 21) (fA 22)) (.node (nU 2496) (lA (nU 2112) 21) (fA 22)))
  false false) 13))) (fD 16)) (fD 17)))))))), 4949⟩,
  [.lp (codeAt Tryz.f140 [1, 1, 0, 1, 0, 0]), .blk 0, .code (codeAt Tryz.f140 [1, 1, 1])]⟩
set_option maxRecDepth 1000000 in
theorem part7 : cutR [0, 1, 2, 17, 18, 791, 793, 794, 795, 796, 798, 799, 800, 801, 847, 871, 872, 873, 874, 875, 880, 900, 901, 1674, 1676, 1677, 1678, 1679, 1681, 1682, 1683, 1684, 1800, 1854, 1864, 1865, 1866, 2248, 2419, 2420, 4948] (iterN (stepF ctx) 12600 s6) = .inl s7 := by kernel_rfl
end Go.Proofs.YtelipbpnplcofaaGreat.delNil
