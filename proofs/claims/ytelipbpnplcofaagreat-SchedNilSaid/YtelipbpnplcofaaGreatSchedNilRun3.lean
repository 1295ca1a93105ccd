/-
  PROVED HERE: parts of the run of the evaluator from the call of SchedNil, by the kernel.
  Conditions: none.
-/
import Derived.KernelRfl
import Derived.Test.YtelipbpnplcofaaGreatSchedNilRun2
namespace Go.Proofs.YtelipbpnplcofaaGreat.schedNil
open Go.Lev
/-- where the run stands at the end of part 3 -/
noncomputable def s3 : St :=
  ⟨⟨68, 41, [], .normal, none,
  [⟨34, 72, [], .normal, none, .run, (.node (.bool false) (.node (.ptr 884 0) (.node (.agg [(nI 2), .nilsl, (nI 4), (nI 0)]) (.node (.bool false) (lU
  (.bool false) 19) (fU 20)) (.node (.ptr 880 0) (lU (.ptr 881 0) 19) (fU 20))) (.node (.ptr 884 0) (.node (.ptr 884 0) (lU (.ptr 884 0) 19) (fU 20)) (.node (nI 0) (lU (nI 0) 19) (fU
  20)))) (.node undefV (.node (.ptr 884 0) (.node (.ptr 884 0) (lU (.ptr 884 0) 19) (fU 20)) (.node (.agg [(nI 2), (nU 5), (nU 0), (nI 0), (.str (bs []))]) (lU (.agg [(nI 2), (nU 5),
  (nU 0), (nI 0), (.str (bs []))]) 19) (fU 20))) (.node (.bool false) (.node (.ptr 884 2) (lU (.ptr 884 3) 19) (fU 20)) (.node (.bool false) (lU (.ptr 884 0) 19) (fU 20))))), [.reg
  (opsAt Tryz.f34 [1, 1, 1, 1, 0, 0]) ((opsAt Tryz.f34 [1, 1, 1, 1, 0, 0]).toList.drop 1), .code (codeAt Tryz.f34 [1, 1, 1, 1, 0, 1]), .code (codeAt Tryz.f34 [1, 1, 1, 1, 1])]⟩,
   
  ⟨7, 84, [], .normal, none, .run, (.node (.bool false) (.node .nil (.node .nil (.node (.ptr 4 0) (.node (.tup [(.agg [(nI 0), (nI 0), (nI 0), (.bool false), (nI 0), (.str (bs [])),
  .nilsl]), (nI 1)]) (.node (.bool true) (lU .nilsl 17) (fU 18)) (.node (.bool true) (lU (.bool true) 17) (fU 18))) (.node (nI 1) (.node (.bool true) (lU (nI 0) 17) (fU 18)) (lU
  (.bool false) 18))) (.node (.tup [.nil, (nI 1)]) (.node (nI 1) (.node (.bool true) (lU (nI 0) 17) (fU 18)) (lU (nI 1) 18)) (.node (.agg [(nI 0), (nU 0), (nU 0), (nI 0), (.str (bs
  []))]) (.node (.bool true) (lU (.bool true) 17) (fU 18)) (lU .nil 18)))) (.node (.ptr 2 0) (.node (.ptr 6 0) (.node (.tup [(.agg [(nI 0), (nI 0), (nI 0), (.bool false), (nI 0),
  (.str (bs [])), .nilsl]), (nI 1)]) (.node (.bool true) (lU (nI 0) 17) (fU 18)) (.node (.bool true) (lU (.bool true) 17) (fU 18))) (.node .nil (.node (.bool true) (lU (nI 0) 17) (fU
  18)) (lU (.bool true) 18))) (.node .nil (.node (.tup [(.agg [(nI 0), (nI 0), (nI 0), (.bool false), (nI 0), (.str (bs [])), .nilsl]), (nI 1)]) (.node (.bool true) (lU .nilsl 17)
  (fU 18)) (lU (.bool true) 18)) (.node .nil (.node (.agg [(nI 0), (nU 0), (nU 0), (nI 0), (.str (bs []))]) (lU .nil 17) (fU 18)) (lU (nI 0) 18))))) (.node (.ptr 0 0) (.node (nI 1)
  (.node (nI 1) (.node .nil (.node (nI 1) (lU (nI 0) 17) (fU 18)) (.node (.bool true) (lU (.bool true) 17) (fU 18))) (.node (.tup [(.agg [(nI 0), (nU 0), (nU 0), (nI 0), (.str (bs
  []))]), (.bool false)]) (.node (nI 1) (lU (nI 0) 17) (fU 18)) (lU (.bool true) 18))) (.node (.tup [.nil, (nI 1)]) (.node (.tup [(.agg [(nI 0), (nI 0), (nI 0), (.bool false), (nI
  0), (.str (bs [])), .nilsl]), (nI 1)]) (.node (nI 1) (lU (nI 0) 17) (fU 18)) (lU (.bool true) 18)) (.node (.bool false) (.node .nil (lU (.bool true) 17) (fU 18)) (lU .nilsl 18))))
  (.node (nI 1) (.node (.bool false) (.node (.agg [(nI 0), (nI 0), (nI 0), (.bool false), (nI 0), (.str (bs [])), .nilsl]) (.node (.bool true) (lU .nil 17) (fU 18)) (lU (.agg [(nI
  0), (nU 0), (nU 0), (nI 0), (.str (bs []))]) 18)) (.node (.tup [(.agg [(nI 0), (nU 0), (nU 0), (nI 0), (.str (bs []))]), (.bool false)]) (.node (.bool true) (lU (.bool true) 17)
  (fU 18)) (lU (.bool true) 18))) (.node (nI 1) (.node (.agg [(nI 0), (nI 0), (nI 0), (.bool false), (nI 0), (.str (bs [])), .nilsl]) (.node (.bool true) (lU (nI 0) 17) (fU 18)) (lU
  (.bool true) 18)) (.node (.bool true) (.node (nI 1) (lU .nil 17) (fU 18)) (lU .nil 18)))))), [.reg (opsAt Tryz.f7 [1, 1, 1, 1, 1, 1, 1, 0]) ((opsAt Tryz.f7 [1, 1, 1, 1, 1, 1, 1,
  0]).toList.drop 53), .code (codeAt Tryz.f7 [1, 1, 1, 1, 1, 1, 1, 1])]⟩]⟩,
  .run,
  (.node (.ptr 884 0) (.node (nI 20000) (.node undefV (.node (nI 1) (.node (.ptr 884 3) (lU (nI 0)
  18) (fU 19)) (lU (nI 1) 19)) (.node (nI 3) (lU (nI 1) 19) (lU (.ptr 884 0) 19))) (.node (nI 4) (.node (nI 20000) (.node (.sl 951 0 0 1 (.u 951 0)) (lU (.bool false) 18) (fU 19))
  (lU (nI 0) 19)) (.node (.ptr 884 0) (lU (nI 1) 19) (lU (nI 0) 19)))) (.node undefV (.node (.bool false) (.node (nI 3) (.node (.ptr 881 0) (lU (.bool true) 18) (fU 19)) (lU (.bool
  false) 19)) (.node (nI 4) (lU (.bool false) 19) (lU (.sl 951 0 0 1 (.u 951 0)) 19))) (.node (.sl 951 0 0 1 (.u 951 0)) (.node (.bool true) (lU (.sl 951 0 0 1 (.u 951 0)) 19) (lU
  (nI 1) 19)) (.node (.ptr 884 0) (lU (.sl 951 0 0 1 (.u 951 0)) 19) (lU (.ptr 951 0) 19))))),
  ⟨(.node (.cells 80 4 4 (.node .nil (.node .nilsl (lA (nI 0) 21) (fA 22)) (lA .nilsl
  22)) true false) (.node .dead (.node .dead (.node .dead (.node .dead (.node .dead (fD 18) (.node .dead (.node .dead (.node .dead (fD 15) (lD (.cells 205 2 6 (.node (nI 0) (.node
  (nU 0) (lA (nU 1) 21) (lA (nU 0) 21)) (.node (nI 3) (lA (nI 0) 21) (fA 22))) true false) 14)) (fD 16)) (fD 17))) (.node .dead (fD 18) (.node .dead (fD 17) (.node .dead (.node .dead
  (fD 15) (lD (.cells 146 2 2 (.node (.ifc 246 (.ptr 891 0)) (lA (nI 0) 22) (fA 23)) true false) 14)) (fD 16))))) (.node (.cells 128 7 7 (.node (.sl 798 0 0 384 (.u 798 0)) (.node
  (.sl 796 0 0 384 (.u 796 0)) (lA (nU 4) 21) (lA (nU 0) 21)) (.node (.map 22) (lA (nU 0) 21) (lA (nU 0) 21))) true false) (fD 19) (.node .dead (fD 18) (.node .dead (.node .dead (fD
  16) (.node .dead (fD 15) (lD (.cells 3 1 1 (lA (nI 0) 23) false false) 14))) (fD 17))))) (.node .dead (.node .dead (.node .dead (fD 18) (.node .dead (.node .dead (.node .dead (fD
  15) (lD (.cells 271 1 1 (lA .nilsl 23) true false) 14)) (fD 16)) (fD 17))) (.node .dead (fD 18) (.node .dead (fD 17) (.node .dead (.node .dead (fD 15) (lD (.cells 3 1 1 (lA (nI 0)
  23) false false) 14)) (fD 16))))) (.node .dead (fD 19) (.node .dead (fD 18) (.node .dead (fD 17) (.node .dead (.node .dead (fD 15) (lD (.cells 305 34 34 (.node (.ptr 878 0) (.node
  (nI 0) (.node (.ifc 29 (.ptr 894 0)) (.node (nI 0) (.node (nU 0) (lA (nI 0) 18) (fA 19)) (lA (nU 0) 19)) (.node (nU 0) (lA (nU 0) 19) (lA (nU 0) 19))) (.node (nI 0) (.node (nU 0)
  (.node (nU 0) (lA .nilsl 18) (fA 19)) (lA (nU 0) 19)) (.node (nU 0) (lA (nU 0) 19) (lA (nI 0) 19)))) (.node (nU 5) (.node (.fn (.func 244) [] [(.ptr 892 0), (.ptr 893 0)]) (.node
  (nU 0) (.node (nU 0) (lA (.str (bs [])) 18) (fA 19)) (lA (nU 0) 19)) (.node (nU 0) (lA (nU 0) 19) (lA (.str (bs [])) 19))) (.node (nU 0) (.node (nU 0) (lA (nU 0) 19) (lA (nU 0)
  19)) (.node (nU 0) (lA (nU 0) 19) (lA (.bool false) 19))))) true false) 14)) (fD 16))))))) (.node .dead (.node .dead (.node .dead (.node .dead (fD 18) (.node .dead (.node .dead
  (.node .dead (fD 15) (lD (.cells 198 7 7 (.node (nI 3072) (.node (.sl 799 0 0 3 (.k 3)) (lA (.ptr 804 0) 21) (lA (.ptr 806 0) 21)) (.node (.ptr 803 0) (lA (.ptr 805 0) 21) (lA
  (.map 800) 21))) true false) 14)) (fD 16)) (fD 17))) (.node .dead (fD 18) (.node .dead (fD 17) (.node .dead (.node .dead (fD 15) (lD (.cells 166 3 3 (.node (.sl 900 0 0 1 (.u 900
  0)) (lA (.sl 883 0 0 1 (.u 883 0)) 22) (lA (nI 5) 22)) true false) 14)) (fD 16))))) (fD 20)) (.node .dead (.node .dead (.node .dead (fD 18) (.node .dead (.node .dead (.node .dead
  (fD 15) (lD (.cells 271 1 1 (lA .nilsl 23) true false) 14)) (fD 16)) (fD 17))) (fD 19)) (.node .dead (.node .dead (.node .dead (.node .dead (fD 16) (.node .dead (fD 15) (lD (.cells
  380 78 78 (.node (.ptr 23 0) (.node (nU 1088) (.node (.bool false) (.node (nU 0) (.node (nU 0) (.node (nU 0) (lA (nU 0) 17) (fA 18)) (lA (nU 0) 18)) (.node (nU 0) (.node (nU 0) (lA
  (nU 0) 17) (fA 18)) (lA (.bool false) 18))) (.node (nU 0) (.node (nU 0) (.node (nU 0) (lA (nU 0) 17) (fA 18)) (lA (nU 0) 18)) (.node (nU 0) (.node (nU 0) (lA (nU 0) 17) (fA 18))
  (lA (nU 0) 18)))) (.node (nU 0) (.node (nU 0) (.node (nU 0) (.node (nU 0) (lA (nU 0) 17) (fA 18)) (lA (nU 0) 18)) (.node (nU 0) (.node (nU 0) (lA (nU 0) 17) (fA 18)) (lA (nI 0)
  18))) (.node (nU 0) (.node (nU 0) (.node (nU 0) (lA (nU 0) 17) (fA 18)) (lA (.bool false) 18)) (.node (nU 0) (.node (nU 0) (lA (nU 0) 17) (fA 18)) (lA (nU 0) 18))))) (.node (nI 2)
  (.node (nU 5495893775785918464) (.node (nU 0) (.node (nU 0) (.node (nU 0) (lA (nU 0) 17) (fA 18)) (lA (nU 0) 18)) (.node (nU 0) (.node (nU 0) (lA (nU 0) 17) (fA 18)) (lA (nI 0)
  18))) (.node (nU 0) (.node (nU 0) (.node (nU 0) (lA (nU 0) 17) (fA 18)) (lA (nU 0) 18)) (.node (nU 0) (.node (nU 0) (lA (nU 0) 17) (fA 18)) (lA (nU 0) 18)))) (.node (nU 0) (.node
  (nU 0) (.node (nU 0) (.node (nU 0) (lA (nU 0) 17) (fA 18)) (lA (nU 0) 18)) (.node (nU 0) (.node (nU 0) (lA (nU 0) 17) (fA 18)) (lA (nU 0) 18))) (.node (nU 0) (.node (nU 0) (.node
  (nU 0) (lA (nU 0) 17) (fA 18)) (lA (.fn (.func 345) [(.ptr 909 0)] []) 18)) (.node (nU 0) (lA (nU 0) 18) (lA (nU 0) 18)))))) true false) 14))) (fD 17)) (.node .dead (fD 17) (.node
  .dead (.node .dead (fD 15) (lD (.cells 255 66 66 (.node (nI 1) (.node (.map 876) (.node (nU 0) (.node (nU 0) (.node (nU 0) (.node (nU 0) (lA (nU 0) 17) (fA 18)) (lA (nU 0) 18))
  (.node (nU 0) (lA (nU 0) 18) (lA (nU 0) 18))) (.node (nU 0) (.node (nU 0) (lA (nU 0) 18) (lA (nU 0) 18)) (.node (nU 0) (lA (nU 0) 18) (lA (nU 0) 18)))) (.node (nU 0) (.node (nU 0)
  (.node (nU 0) (.node (nU 0) (lA (nU 0) 17) (fA 18)) (lA (nU 0) 18)) (.node (nU 0) (lA (nU 0) 18) (lA (nU 0) 18))) (.node (nU 0) (.node (nU 0) (lA (nU 0) 18) (lA (nU 0) 18)) (.node
  (nU 0) (lA (nU 0) 18) (lA (nU 0) 18))))) (.node (nU 0) (.node (nU 0) (.node (nU 0) (.node (nU 0) (.node (nU 0) (lA (nU 0) 17) (fA 18)) (lA (nU 0) 18)) (.node (nU 0) (lA (nU 0) 18)
  (lA (nU 0) 18))) (.node (nU 0) (.node (nU 0) (lA (nU 0) 18) (lA (nU 0) 18)) (.node (nU 0) (lA (nU 0) 18) (lA (nU 0) 18)))) (.node (nU 0) (.node (nU 0) (.node (nU 0) (lA (nU 0) 18)
  (lA (nU 0) 18)) (.node (nU 0) (lA (nU 0) 18) (lA (nU 0) 18))) (.node (nU 0) (.node (nU 0) (lA (nU 0) 18) (lA (nU 0) 18)) (.node (nU 0) (lA (nU 0) 18) (lA (nU 0) 18)))))) true
  false) 14)) (fD 16)))) (.node .dead (fD 18) (.node .dead (fD 17) (.node .dead (.node .dead (fD 15) (lD (.cells 29 1 1 (lA (.ptr 894 0) 23) true false) 14)) (fD 16)))))))) (.node
  (.cells 84 7 7 (.node (nI 0) (.node (nI 0) (lA (.bool false) 21) (lA (.str (bs [])) 21)) (.node (nI 0) (lA (nI 0) 21) (lA .nilsl 21))) true false) (.node (.cells 84 7 7 (.node (nI
  0) (.node (nI 0) (lA (.bool false) 21) (lA (.str (bs [])) 21)) (.node (nI 0) (lA (nI 0) 21) (lA .nilsl 21))) true false) (.node .dead (.node .dead (.node .dead (.node .dead (.node
  .dead (fD 16) (.node .dead (fD 15) (lD (.cells 150 11 11 (.node (nI 0) (.node (nI 2) (.node (nU 0) (lA (.int .i64 (.negSucc 0)) 20) (fA 21)) (.node (.str (bs [])) (lA (.str (bs
  [])) 20) (fA 21))) (.node (nU 5) (.node (nI 0) (lA (nI 0) 20) (fA 21)) (.node (nI 0) (lA .nilsl 20) (fA 21)))) false false) 14))) (fD 17)) (.node .dead (.node .dead (.node .dead
  (fD 15) (lD (.map [⟨(nU 1088), (nI 2), 0⟩] 1) 14)) (fD 16)) (fD 17))) (.node .dead (fD 18) (.node .dead (fD 17) (.node .dead (.node .dead (fD 15) (lD (.cells 80 4 4 (.node (.ptr
  878 0) (.node (.sl 879 0 0 1 (.k 1)) (lA (nI 5) 21) (fA 22)) (lA (.sl 896 0 0 1 (.u 896 0)) 22)) true false) 14)) (fD 16))))) (fD 20)) (.node .dead (.node .dead (.node .dead (.node
  .dead (.node .dead (fD 16) (.node .dead (fD 15) (lD (.cells 150 11 11 (.node (nI 0) (.node (nI 2) (.node (nU 0) (lA (.int .i64 (.negSucc 0)) 20) (fA 21)) (.node (.str (bs [])) (lA
  (.str (bs [])) 20) (fA 21))) (.node (nU 5) (.node (nI 0) (lA (nI 0) 20) (fA 21)) (.node (nI 0) (lA .nilsl 20) (fA 21)))) false false) 14))) (fD 17)) (.node .dead (.node .dead
  (.node .dead (fD 15) (lD (.cells 271 1 1 (lA .nilsl 23) true false) 14)) (fD 16)) (fD 17))) (.node .dead (.node .dead (fD 17) (.node .dead (.node .dead (fD 15) (lD (.cells 26 1 5
  (.node (nU 1280) (.node (nU 1664) (lA (nU 1856) 21) (fA 22)) (.node (nU 1472) (lA (nU 1088) 21) (fA 22))) false false) 14)) (fD 16))) (.node .dead (fD 17) (.node .dead (.node .dead
  (fD 15) (lD (.cells 161 4 4 (.node (.sl 10 0 0 3072 (.k 3072)) (.node (.ptr 878 0) (lA (.ptr 881 0) 21) (fA 22)) (lA (.ptr 880 0) 22)) true false) 14)) (fD 16))))) (.node .dead
  (.node .dead (fD 18) (.node .dead (fD 17) (.node .dead (.node .dead (fD 15) (lD (.map [] 0) 14)) (fD 16)))) (.node .dead (.node .dead (.node .dead (.node .dead (fD 15) (lD (.cells
  25 1 384 (.node (nU 5929342154728227142) (.node (nU 3072) (.node (nU 18446744073709548543) (.node (nU 0) (.node (nU 0) (.node (nU 0) (.node (nU 0) (.node (nU 0) (lA (nU 0) 15) (lA
  (nU 0) 15)) (.node (nU 0) (lA (nU 0) 15) (fA 16))) (.node (nU 0) (.node (nU 0) (lA (nU 0) 15) (fA 16)) (.node (nU 0) (lA (nU 0) 15) (fA 16)))) (.node (nU 0) (.node (nU 0) (.node
  (nU 0) (lA (nU 0) 15) (fA 16)) (.node (nU 0) (lA (nU 0) 15) (fA 16))) (.node (nU 0) (.node (nU 0) (lA (nU 0) 15) (fA 16)) (.node (nU 0) (lA (nU 0) 15) (fA 16))))) (.node (nU 0)
  (.node (nU 0) (.node (nU 0) (.node (nU 0) (lA (nU 0) 15) (fA 16)) (.node (nU 0) (lA (nU 0) 15) (fA 16))) (.node (nU 0) (.node (nU 0) (lA (nU 0) 15) (fA 16)) (.node (nU 0) (lA (nU
  0) 15) (fA 16)))) (.node (nU 0) (.node (nU 0) (.node (nU 0) (lA (nU 0) 15) (fA 16)) (.node (nU 0) (lA (nU 0) 15) (fA 16))) (.node (nU 0) (.node (nU 0) (lA (nU 0) 15) (fA 16))
  (.node (nU 0) (lA (nU 0) 15) (fA 16)))))) (.node (nU 0) (.node (nU 0) (.node (nU 0) (.node (nU 0) (.node (nU 0) (lA (nU 0) 15) (fA 16)) (.node (nU 0) (lA (nU 0) 15) (fA 16)))
  (.node (nU 0) (.node (nU 0) (lA (nU 0) 15) (fA 16)) (.node (nU 0) (lA (nU 0) 15) (fA 16)))) (.node (nU 0) (.node (nU 0) (.node (nU 0) (lA (nU 0) 15) (fA 16)) (.node (nU 0) (lA (nU
  0) 15) (fA 16))) (.node (nU 0) (.node (nU 0) (lA (nU 0) 15) (fA 16)) (.node (nU 0) (lA (nU 0) 15) (fA 16))))) (.node (nU 0) (.node (nU 0) (.node (nU 0) (.node (nU 0) (lA (nU 0) 15)
  (fA 16)) (.node (nU 0) (lA (nU 0) 15) (fA 16))) (.node (nU 0) (.node (nU 0) (lA (nU 0) 15) (fA 16)) (.node (nU 0) (lA (nU 0) 15) (fA 16)))) (.node (nU 0) (.node (nU 0) (.node (nU
  0) (lA (nU 0) 15) (fA 16)) (.node (nU 0) (lA (nU 0) 15) (fA 16))) (.node (nU 0) (.node (nU 0) (lA (nU 0) 15) (fA 16)) (.node (nU 0) (lA (nU 0) 15) (fA 16))))))) (.node (nU 0)
  (.node (nU 0) (.node (nU 0) (.node (nU 0) (.node (nU 0) (.node (nU 1) (lA (nU 0) 15) (fA 16)) (.node (nU 0) (lA (nU 0) 15) (fA 16))) (.node (nU 0) (.node (nU 0) (lA (nU 0) 15) (fA
  16)) (.node (nU 0) (lA (nU 0) 15) (fA 16)))) (.node (nU 0) (.node (nU 0) (.node (nU 0) (lA (nU 0) 15) (fA 16)) (.node (nU 0) (lA (nU 0) 15) (fA 16))) (.node (nU 0) (.node (nU 0)
  (lA (nU 0) 15) (fA 16)) (.node (nU 0) (lA (nU 0) 15) (fA 16))))) (.node (nU 0) (.node (nU 0) (.node (nU 0) (.node (nU 0) (lA (nU 0) 15) (fA 16)) (.node (nU 0) (lA (nU 0) 15) (fA
  16))) (.node (nU 0) (.node (nU 0) (lA (nU 0) 15) (fA 16)) (.node (nU 0) (lA (nU 0) 15) (fA 16)))) (.node (nU 0) (.node (nU 0) (.node (nU 0) (lA (nU 0) 15) (fA 16)) (.node (nU 0)
  (lA (nU 0) 15) (fA 16))) (.node (nU 0) (.node (nU 0) (lA (nU 0) 15) (fA 16)) (.node (nU 0) (lA (nU 0) 15) (fA 16)))))) (.node (nU 0) (.node (nU 0) (.node (nU 0) (.node (nU 0)
  (.node (nU 0) (lA (nU 0) 15) (fA 16)) (.node (nU 0) (lA (nU 0) 15) (fA 16))) (.node (nU 0) (.node (nU 0) (lA (nU 0) 15) (fA 16)) (.node (nU 0) (lA (nU 0) 15) (fA 16)))) (.node (nU
  0) (.node (nU 0) (.node (nU 0) (lA (nU 0) 15) (fA 16)) (.node (nU 0) (lA (nU 0) 15) (fA 16))) (.node (nU 0) (.node (nU 0) (lA (nU 0) 15) (fA 16)) (.node (nU 0) (lA (nU 0) 15) (fA
  16))))) (.node (nU 0) (.node (nU 0) (.node (nU 0) (.node (nU 0) (lA (nU 0) 15) (fA 16)) (.node (nU 0) (lA (nU 0) 15) (fA 16))) (.node (nU 0) (.node (nU 0) (lA (nU 0) 15) (fA 16))
  (.node (nU 0) (lA (nU 0) 15) (fA 16)))) (.node (nU 0) (.node (nU 0) (.node (nU 0) (lA (nU 0) 15) (fA 16)) (.node (nU 0) (lA (nU 0) 15) (fA 16))) (.node (nU 0) (.node (nU 0) (lA (nU
  0) 15) (fA 16)) (.node (nU 0) (lA (nU 0) 15) (fA 16)))))))) (.node (nU 1088) (.node (nU 0) (.node (nU 0) (.node (nU 0) (.node (nU 0) (.node (nU 0) (.node (nU 3) (lA (nU 0) 15) (fA
  16)) (.node (nU 0) (lA (nU 0) 15) (fA 16))) (.node (nU 0) (.node (nU 0) (lA (nU 0) 15) (fA 16)) (.node (nU 0) (lA (nU 0) 15) (fA 16)))) (.node (nU 0) (.node (nU 0) (.node (nU 0)
  (lA (nU 0) 15) (fA 16)) (.node (nU 0) (lA (nU 0) 15) (fA 16))) (.node (nU 0) (.node (nU 0) (lA (nU 0) 15) (fA 16)) (.node (nU 0) (lA (nU 0) 15) (fA 16))))) (.node (nU 0) (.node (nU
  0) (.node (nU 0) (.node (nU 5495893775785918464) (lA (nU 0) 15) (fA 16)) (.node (nU 0) (lA (nU 0) 15) (fA 16))) (.node (nU 0) (.node (nU 0) (lA (nU 0) 15) (fA 16)) (.node (nU 0)
  (lA (nU 0) 15) (fA 16)))) (.node (nU 0) (.node (nU 0) (.node (nU 0) (lA (nU 0) 15) (fA 16)) (.node (nU 0) (lA (nU 0) 15) (fA 16))) (.node (nU 0) (.node (nU 0) (lA (nU 0) 15) (fA
  16)) (.node (nU 0) (lA (nU 0) 15) (fA 16)))))) (.node (nU 0) (.node (nU 0) (.node (nU 0) (.node (nU 0) (.node (nU 0) (lA (nU 0) 15) (fA 16)) (.node (nU 0) (lA (nU 0) 15) (fA 16)))
  (.node (nU 0) (.node (nU 0) (lA (nU 0) 15) (fA 16)) (.node (nU 0) (lA (nU 0) 15) (fA 16)))) (.node (nU 0) (.node (nU 0) (.node (nU 0) (lA (nU 0) 15) (fA 16)) (.node (nU 0) (lA (nU
  0) 15) (fA 16))) (.node (nU 0) (.node (nU 0) (lA (nU 0) 15) (fA 16)) (.node (nU 0) (lA (nU 0) 15) (fA 16))))) (.node (nU 0) (.node (nU 0) (.node (nU 0) (.node (nU 1088) (lA (nU 0)
  15) (fA 16)) (.node (nU 0) (lA (nU 0) 15) (fA 16))) (.node (nU 0) (.node (nU 0) (lA (nU 0) 15) (fA 16)) (.node (nU 0) (lA (nU 0) 15) (fA 16)))) (.node (nU 0) (.node (nU 0) (.node
  (nU 0) (lA (nU 0) 15) (fA 16)) (.node (nU 0) (lA (nU 0) 15) (fA 16))) (.node (nU 0) (.node (nU 0) (lA (nU 0) 15) (fA 16)) (.node (nU 0) (lA (nU 0) 15) (fA 16))))))) (.node (nU 0)
  (.node (nU 0) (.node (nU 0) (.node (nU 0) (.node (nU 0) (.node (nU 0) (lA (nU 0) 15) (fA 16)) (.node (nU 0) (lA (nU 0) 15) (fA 16))) (.node (nU 0) (.node (nU 0) (lA (nU 0) 15) (fA
  16)) (.node (nU 0) (lA (nU 0) 15) (fA 16)))) (.node (nU 0) (.node (nU 0) (.node (nU 0) (lA (nU 0) 15) (fA 16)) (.node (nU 0) (lA (nU 0) 15) (fA 16))) (.node (nU 0) (.node (nU 0)
  (lA (nU 0) 15) (fA 16)) (.node (nU 0) (lA (nU 0) 15) (fA 16))))) (.node (nU 0) (.node (nU 0) (.node (nU 0) (.node (nU 0) (lA (nU 0) 15) (fA 16)) (.node (nU 0) (lA (nU 0) 15) (fA
  16))) (.node (nU 0) (.node (nU 0) (lA (nU 0) 15) (fA 16)) (.node (nU 0) (lA (nU 0) 15) (fA 16)))) (.node (nU 0) (.node (nU 0) (.node (nU 0) (lA (nU 0) 15) (fA 16)) (.node (nU 0)
  (lA (nU 0) 15) (fA 16))) (.node (nU 0) (.node (nU 0) (lA (nU 0) 15) (fA 16)) (.node (nU 0) (lA (nU 0) 15) (fA 16)))))) (.node (nU 0) (.node (nU 0) (.node (nU 0) (.node (nU 0)
  (.node (nU 0) (lA (nU 0) 15) (fA 16)) (.node (nU 0) (lA (nU 0) 15) (fA 16))) (.node (nU 0) (.node (nU 0) (lA (nU 0) 15) (fA 16)) (.node (nU 0) (lA (nU 0) 15) (fA 16)))) (.node (nU
  0) (.node (nU 0) (.node (nU 0) (lA (nU 0) 15) (fA 16)) (.node (nU 0) (lA (nU 0) 15) (fA 16))) (.node (nU 0) (.node (nU 0) (lA (nU 0) 15) (fA 16)) (.node (nU 0) (lA (nU 0) 15) (fA
  16))))) (.node (nU 0) (.node (nU 0) (.node (nU 0) (.node (nU 0) (lA (nU 0) 15) (fA 16)) (.node (nU 0) (lA (nU 0) 15) (fA 16))) (.node (nU 0) (.node (nU 0) (lA (nU 0) 15) (fA 16))
  (.node (nU 0) (lA (nU 0) 15) (fA 16)))) (.node (nU 0) (.node (nU 0) (.node (nU 0) (lA (nU 0) 15) (fA 16)) (.node (nU 0) (lA (nU 0) 15) (fA 16))) (.node (nU 0) (.node (nU 0) (lA (nU
  0) 15) (fA 16)) (.node (nU 0) (lA (nU 0) 15) (fA 16))))))))) false false) 14)) (fD 16)) (fD 17)) (.node .dead (fD 17) (.node .dead (.node .dead (fD 15) (lD (.cells 246 1 1 (lA
  (.ptr 891 0) 23) true false) 14)) (fD 16))))))) (.node (.cells 89 5 5 (.node (nI 0) (.node (nU 0) (lA (nI 0) 21) (fA 22)) (.node (nU 0) (lA (.str (bs [])) 21) (fA 22))) true false)
  (lD (.cells 5 1 3072 (.node (nB 70) (.node (nB 65) (.node (nB 84) (.node (nB 82) (.node (nB 0) (.node (nB 255) (.node (nB 0) (.node (nB 0) (.node (nB 0) (fB 15) (lB (nB 0) 14))
  (.node (nB 0) (lB (nB 0) 14) (fB 15))) (.node (nB 0) (fB 16) (.node (nB 0) (lB (nB 0) 14) (fB 15)))) (.node (nB 0) (.node (nB 0) (fB 16) (.node (nB 0) (lB (nB 0) 14) (fB 15)))
  (.node (nB 0) (.node (nB 0) (lB (nB 0) 14) (fB 15)) (.node (nB 0) (lB (nB 0) 14) (fB 15))))) (.node (nB 0) (.node (nB 0) (.node (nB 0) (.node (nB 0) (lB (nB 0) 14) (fB 15)) (.node
  (nB 0) (lB (nB 0) 14) (fB 15))) (.node (nB 0) (.node (nB 0) (lB (nB 0) 14) (fB 15)) (.node (nB 0) (lB (nB 0) 14) (fB 15)))) (.node (nB 0) (.node (nB 0) (fB 16) (.node (nB 0) (lB
  (nB 0) 14) (fB 15))) (.node (nB 0) (.node (nB 0) (lB (nB 0) 14) (fB 15)) (.node (nB 0) (lB (nB 0) 14) (fB 15)))))) (.node (nB 0) (.node (nB 0) (.node (nB 0) (.node (nB 0) (.node
  (nB 0) (lB (nB 0) 14) (fB 15)) (.node (nB 0) (lB (nB 0) 14) (fB 15))) (.node (nB 0) (.node (nB 0) (.node (nB 0) (lB (nB 76) 13) (fB 14)) (fB 15)) (.node (nB 0) (lB (nB 0) 14) (fB
  15)))) (.node (nB 0) (.node (nB 0) (fB 16) (.node (nB 0) (lB (nB 0) 14) (fB 15))) (.node (nB 0) (.node (nB 0) (lB (nB 0) 14) (fB 15)) (.node (nB 0) (lB (nB 0) 14) (fB 15)))))
  (.node (nB 0) (.node (nB 0) (.node (nB 0) (fB 16) (.node (nB 0) (lB (nB 0) 14) (fB 15))) (.node (nB 0) (.node (nB 0) (lB (nB 0) 14) (fB 15)) (.node (nB 0) (lB (nB 0) 14) (fB 15))))
  (.node (nB 0) (.node (nB 0) (fB 16) (.node (nB 0) (lB (nB 0) 14) (fB 15))) (.node (nB 0) (.node (nB 0) (lB (nB 0) 14) (fB 15)) (.node (nB 0) (lB (nB 0) 14) (fB 15))))))) (.node (nB
  0) (.node (nB 0) (.node (nB 0) (.node (nB 0) (.node (nB 0) (.node (nB 0) (lB (nB 0) 14) (fB 15)) (.node (nB 0) (lB (nB 0) 14) (fB 15))) (.node (nB 0) (.node (nB 0) (.node (nB 0)
  (lB (nB 69) 13) (fB 14)) (fB 15)) (.node (nB 0) (lB (nB 0) 14) (fB 15)))) (.node (nB 0) (.node (nB 0) (fB 16) (.node (nB 0) (lB (nB 0) 14) (fB 15))) (.node (nB 0) (.node (nB 0) (lB
  (nB 0) 14) (fB 15)) (.node (nB 0) (lB (nB 0) 14) (fB 15))))) (.node (nB 0) (.node (nB 0) (.node (nB 0) (fB 16) (.node (nB 0) (lB (nB 0) 14) (fB 15))) (.node (nB 0) (.node (nB 0)
  (lB (nB 0) 14) (fB 15)) (.node (nB 0) (lB (nB 0) 14) (fB 15)))) (.node (nB 0) (.node (nB 0) (fB 16) (.node (nB 0) (lB (nB 0) 14) (fB 15))) (.node (nB 0) (.node (nB 0) (lB (nB 0)
  14) (fB 15)) (.node (nB 0) (lB (nB 0) 14) (fB 15)))))) (.node (nB 255) (.node (nB 0) (.node (nB 0) (.node (nB 0) (.node (nB 0) (lB (nB 0) 14) (fB 15)) (.node (nB 0) (lB (nB 0) 14)
  (fB 15))) (.node (nB 0) (.node (nB 0) (lB (nB 0) 14) (fB 15)) (.node (nB 0) (lB (nB 0) 14) (fB 15)))) (.node (nB 0) (.node (nB 0) (fB 16) (.node (nB 0) (lB (nB 0) 14) (fB 15)))
  (.node (nB 0) (.node (nB 0) (lB (nB 0) 14) (fB 15)) (.node (nB 0) (lB (nB 0) 14) (fB 15))))) (.node (nB 0) (.node (nB 0) (.node (nB 0) (fB 16) (.node (nB 0) (lB (nB 0) 14) (fB
  15))) (.node (nB 0) (.node (nB 0) (lB (nB 0) 14) (fB 15)) (.node (nB 0) (lB (nB 0) 14) (fB 15)))) (.node (nB 0) (.node (nB 0) (fB 16) (.node (nB 0) (lB (nB 0) 14) (fB 15))) (.node
  (nB 0) (.node (nB 0) (lB (nB 0) 14) (fB 15)) (.node (nB 0) (lB (nB 0) 14) (fB 15)))))))) (.node (nB 65) (.node (nB 12) (.node (nB 4) (.node (nB 0) (.node (nB 0) (.node (nB 0)
  (.node (nB 0) (lB (nB 0) 14) (fB 15)) (.node (nB 0) (lB (nB 0) 14) (fB 15))) (.node (nB 0) (.node (nB 0) (lB (nB 0) 14) (fB 15)) (.node (nB 0) (lB (nB 0) 14) (fB 15)))) (.node (nB
  0) (.node (nB 0) (fB 16) (.node (nB 0) (lB (nB 0) 14) (fB 15))) (.node (nB 0) (.node (nB 0) (.node (nB 0) (lB (nB 4) 13) (fB 14)) (fB 15)) (.node (nB 0) (lB (nB 0) 14) (fB 15)))))
  (.node (nB 0) (.node (nB 0) (.node (nB 0) (fB 16) (.node (nB 0) (lB (nB 0) 14) (fB 15))) (.node (nB 0) (.node (nB 0) (lB (nB 0) 14) (fB 15)) (.node (nB 0) (lB (nB 0) 14) (fB 15))))
  (.node (nB 0) (.node (nB 0) (fB 16) (.node (nB 0) (lB (nB 0) 14) (fB 15))) (.node (nB 0) (.node (nB 0) (lB (nB 0) 14) (fB 15)) (.node (nB 0) (lB (nB 0) 14) (fB 15)))))) (.node (nB
  243) (.node (nB 0) (.node (nB 0) (.node (nB 0) (.node (nB 0) (lB (nB 0) 14) (fB 15)) (.node (nB 0) (lB (nB 0) 14) (fB 15))) (.node (nB 0) (.node (nB 0) (lB (nB 0) 14) (fB 15))
  (.node (nB 0) (lB (nB 0) 14) (fB 15)))) (.node (nB 0) (.node (nB 0) (fB 16) (.node (nB 0) (lB (nB 0) 14) (fB 15))) (.node (nB 0) (.node (nB 0) (lB (nB 0) 14) (fB 15)) (.node (nB 0)
  (lB (nB 0) 14) (fB 15))))) (.node (nB 0) (.node (nB 0) (.node (nB 0) (fB 16) (.node (nB 0) (lB (nB 0) 14) (fB 15))) (.node (nB 0) (.node (nB 0) (lB (nB 0) 14) (fB 15)) (.node (nB
  0) (lB (nB 0) 14) (fB 15)))) (.node (nB 0) (.node (nB 0) (fB 16) (.node (nB 0) (lB (nB 0) 14) (fB 15))) (.node (nB 0) (.node (nB 0) (lB (nB 0) 14) (fB 15)) (.node (nB 0) (lB (nB 0)
  14) (fB 15))))))) (.node (nB 0) (.node (nB 0) (.node (nB 0) (.node (nB 0) (.node (nB 0) (.node (nB 0) (lB (nB 0) 14) (fB 15)) (.node (nB 0) (lB (nB 0) 14) (fB 15))) (.node (nB 0)
  (.node (nB 0) (.node (nB 0) (lB (nB 86) 13) (fB 14)) (fB 15)) (.node (nB 0) (lB (nB 0) 14) (fB 15)))) (.node (nB 0) (.node (nB 0) (fB 16) (.node (nB 0) (lB (nB 0) 14) (fB 15)))
  (.node (nB 0) (.node (nB 0) (lB (nB 0) 14) (fB 15)) (.node (nB 0) (lB (nB 0) 14) (fB 15))))) (.node (nB 0) (.node (nB 0) (.node (nB 0) (fB 16) (.node (nB 0) (lB (nB 0) 14) (fB
  15))) (.node (nB 0) (.node (nB 0) (lB (nB 0) 14) (fB 15)) (.node (nB 0) (lB (nB 0) 14) (fB 15)))) (.node (nB 0) (.node (nB 0) (fB 16) (.node (nB 0) (lB (nB 0) 14) (fB 15))) (.node
  (nB 0) (.node (nB 0) (lB (nB 0) 14) (fB 15)) (.node (nB 0) (lB (nB 0) 14) (fB 15)))))) (.node (nB 255) (.node (nB 0) (.node (nB 0) (.node (nB 0) (.node (nB 0) (lB (nB 0) 14) (fB
  15)) (.node (nB 0) (lB (nB 0) 14) (fB 15))) (.node (nB 0) (.node (nB 0) (lB (nB 0) 14) (fB 15)) (.node (nB 0) (lB (nB 0) 14) (fB 15)))) (.node (nB 0) (.node (nB 0) (fB 16) (.node
  (nB 0) (lB (nB 0) 14) (fB 15))) (.node (nB 0) (.node (nB 0) (lB (nB 0) 14) (fB 15)) (.node (nB 0) (lB (nB 0) 14) (fB 15))))) (.node (nB 0) (.node (nB 0) (.node (nB 0) (fB 16)
  (.node (nB 0) (lB (nB 0) 14) (fB 15))) (.node (nB 0) (.node (nB 0) (lB (nB 0) 14) (fB 15)) (.node (nB 0) (lB (nB 0) 14) (fB 15)))) (.node (nB 0) (.node (nB 0) (fB 16) (.node (nB 0)
  (lB (nB 0) 14) (fB 15))) (.node (nB 0) (.node (nB 0) (lB (nB 0) 14) (fB 15)) (.node (nB 0) (lB (nB 0) 14) (fB 15))))))))) (.node (nB 83) (.node (nB 70) (.node (nB 0) (.node (nB 64)
  (.node (nB 0) (.node (nB 0) (.node (nB 0) (.node (nB 0) (.node (nB 0) (lB (nB 3) 13) (fB 14)) (fB 15)) (.node (nB 0) (lB (nB 0) 14) (fB 15))) (.node (nB 0) (.node (nB 0) (lB (nB 0)
  14) (fB 15)) (.node (nB 0) (lB (nB 0) 14) (fB 15)))) (.node (nB 0) (.node (nB 0) (fB 16) (.node (nB 0) (lB (nB 0) 14) (fB 15))) (.node (nB 0) (.node (nB 0) (.node (nB 0) (lB (nB
  64) 13) (fB 14)) (fB 15)) (.node (nB 0) (lB (nB 0) 14) (fB 15))))) (.node (nB 0) (.node (nB 0) (.node (nB 0) (fB 16) (.node (nB 0) (lB (nB 0) 14) (fB 15))) (.node (nB 0) (.node (nB
  0) (lB (nB 0) 14) (fB 15)) (.node (nB 0) (lB (nB 0) 14) (fB 15)))) (.node (nB 0) (.node (nB 0) (fB 16) (.node (nB 0) (lB (nB 0) 14) (fB 15))) (.node (nB 0) (.node (nB 0) (lB (nB 0)
  14) (fB 15)) (.node (nB 0) (lB (nB 0) 14) (fB 15)))))) (.node (nB 255) (.node (nB 0) (.node (nB 0) (.node (nB 0) (.node (nB 0) (.node (nB 0) (lB (nB 1) 13) (fB 14)) (fB 15)) (.node
  (nB 0) (lB (nB 0) 14) (fB 15))) (.node (nB 0) (.node (nB 0) (lB (nB 0) 14) (fB 15)) (.node (nB 0) (lB (nB 0) 14) (fB 15)))) (.node (nB 0) (.node (nB 0) (fB 16) (.node (nB 0) (lB
  (nB 0) 14) (fB 15))) (.node (nB 0) (.node (nB 0) (lB (nB 0) 14) (fB 15)) (.node (nB 0) (lB (nB 0) 14) (fB 15))))) (.node (nB 0) (.node (nB 0) (.node (nB 0) (fB 16) (.node (nB 0)
  (lB (nB 0) 14) (fB 15))) (.node (nB 0) (.node (nB 0) (lB (nB 0) 14) (fB 15)) (.node (nB 0) (lB (nB 0) 14) (fB 15)))) (.node (nB 0) (.node (nB 0) (fB 16) (.node (nB 0) (lB (nB 0)
  14) (fB 15))) (.node (nB 0) (.node (nB 0) (lB (nB 0) 14) (fB 15)) (.node (nB 0) (lB (nB 0) 14) (fB 15))))))) (.node (nB 0) (.node (nB 0) (.node (nB 0) (.node (nB 0) (.node (nB 0)
  (.node (nB 0) (lB (nB 0) 14) (fB 15)) (.node (nB 0) (lB (nB 0) 14) (fB 15))) (.node (nB 0) (.node (nB 0) (.node (nB 0) (lB (nB 69) 13) (fB 14)) (fB 15)) (.node (nB 0) (lB (nB 0)
  14) (fB 15)))) (.node (nB 0) (.node (nB 0) (fB 16) (.node (nB 0) (lB (nB 0) 14) (fB 15))) (.node (nB 0) (.node (nB 0) (lB (nB 0) 14) (fB 15)) (.node (nB 0) (lB (nB 0) 14) (fB
  15))))) (.node (nB 0) (.node (nB 0) (.node (nB 0) (fB 16) (.node (nB 0) (lB (nB 0) 14) (fB 15))) (.node (nB 0) (.node (nB 0) (lB (nB 0) 14) (fB 15)) (.node (nB 0) (lB (nB 0) 14)
  (fB 15)))) (.node (nB 0) (.node (nB 0) (fB 16) (.node (nB 0) (lB (nB 0) 14) (fB 15))) (.node (nB 0) (.node (nB 0) (lB (nB 0) 14) (fB 15)) (.node (nB 0) (lB (nB 0) 14) (fB 15))))))
  (.node (nB 255) (.node (nB 0) (.node (nB 0) (.node (nB 0) (.node (nB 0) (lB (nB 0) 14) (fB 15)) (.node (nB 0) (lB (nB 0) 14) (fB 15))) (.node (nB 0) (.node (nB 0) (lB (nB 0) 14)
  (fB 15)) (.node (nB 0) (lB (nB 0) 14) (fB 15)))) (.node (nB 0) (.node (nB 0) (fB 16) (.node (nB 0) (lB (nB 0) 14) (fB 15))) (.node (nB 0) (.node (nB 0) (lB (nB 0) 14) (fB 15))
  (.node (nB 0) (lB (nB 0) 14) (fB 15))))) (.node (nB 0) (.node (nB 0) (.node (nB 0) (fB 16) (.node (nB 0) (lB (nB 0) 14) (fB 15))) (.node (nB 0) (.node (nB 0) (lB (nB 0) 14) (fB
  15)) (.node (nB 0) (lB (nB 0) 14) (fB 15)))) (.node (nB 0) (.node (nB 0) (fB 16) (.node (nB 0) (lB (nB 0) 14) (fB 15))) (.node (nB 0) (.node (nB 0) (lB (nB 0) 14) (fB 15)) (.node
  (nB 0) (lB (nB 0) 14) (fB 15)))))))) (.node (nB 73) (.node (nB 0) (.node (nB 0) (.node (nB 0) (.node (nB 0) (.node (nB 0) (.node (nB 0) (lB (nB 0) 14) (fB 15)) (.node (nB 0) (lB
  (nB 0) 14) (fB 15))) (.node (nB 0) (.node (nB 0) (lB (nB 0) 14) (fB 15)) (.node (nB 0) (lB (nB 0) 14) (fB 15)))) (.node (nB 0) (.node (nB 0) (fB 16) (.node (nB 0) (lB (nB 0) 14)
  (fB 15))) (.node (nB 0) (.node (nB 0) (lB (nB 0) 14) (fB 15)) (.node (nB 0) (lB (nB 0) 14) (fB 15))))) (.node (nB 0) (.node (nB 0) (.node (nB 0) (fB 16) (.node (nB 0) (lB (nB 0)
  14) (fB 15))) (.node (nB 0) (.node (nB 0) (lB (nB 0) 14) (fB 15)) (.node (nB 0) (lB (nB 0) 14) (fB 15)))) (.node (nB 0) (.node (nB 0) (fB 16) (.node (nB 0) (lB (nB 0) 14) (fB 15)))
  (.node (nB 0) (.node (nB 0) (lB (nB 0) 14) (fB 15)) (.node (nB 0) (lB (nB 0) 14) (fB 15)))))) (.node (nB 255) (.node (nB 0) (.node (nB 0) (.node (nB 0) (.node (nB 0) (lB (nB 0) 14)
  (fB 15)) (.node (nB 0) (lB (nB 0) 14) (fB 15))) (.node (nB 0) (.node (nB 0) (lB (nB 0) 14) (fB 15)) (.node (nB 0) (lB (nB 0) 14) (fB 15)))) (.node (nB 0) (.node (nB 0) (fB 16)
  (.node (nB 0) (lB (nB 0) 14) (fB 15))) (.node (nB 0) (.node (nB 0) (lB (nB 0) 14) (fB 15)) (.node (nB 0) (lB (nB 0) 14) (fB 15))))) (.node (nB 0) (.node (nB 0) (.node (nB 0) (fB
  16) (.node (nB 0) (lB (nB 0) 14) (fB 15))) (.node (nB 0) (.node (nB 0) (lB (nB 0) 14) (fB 15)) (.node (nB 0) (lB (nB 0) 14) (fB 15)))) (.node (nB 0) (.node (nB 0) (fB 16) (.node
  (nB 0) (lB (nB 0) 14) (fB 15))) (.node (nB 0) (.node (nB 0) (lB (nB 0) 14) (fB 15)) (.node (nB 0) (lB (nB 0) 14) (fB 15))))))) (.node (nB 0) (.node (nB 0) (.node (nB 0) (.node (nB
  0) (.node (nB 0) (.node (nB 0) (lB (nB 0) 14) (fB 15)) (.node (nB 0) (lB (nB 0) 14) (fB 15))) (.node (nB 0) (.node (nB 0) (.node (nB 0) (lB (nB 69) 13) (fB 14)) (fB 15)) (.node (nB
  0) (lB (nB 0) 14) (fB 15)))) (.node (nB 0) (.node (nB 0) (fB 16) (.node (nB 0) (lB (nB 0) 14) (fB 15))) (.node (nB 0) (.node (nB 0) (lB (nB 0) 14) (fB 15)) (.node (nB 0) (lB (nB 0)
  14) (fB 15))))) (.node (nB 0) (.node (nB 0) (.node (nB 0) (fB 16) (.node (nB 0) (lB (nB 0) 14) (fB 15))) (.node (nB 0) (.node (nB 0) (lB (nB 0) 14) (fB 15)) (.node (nB 0) (lB (nB
  0) 14) (fB 15)))) (.node (nB 0) (.node (nB 0) (fB 16) (.node (nB 0) (lB (nB 0) 14) (fB 15))) (.node (nB 0) (.node (nB 0) (lB (nB 0) 14) (fB 15)) (.node (nB 0) (lB (nB 0) 14) (fB
  15)))))) (.node (nB 255) (.node (nB 0) (.node (nB 0) (.node (nB 0) (.node (nB 0) (lB (nB 0) 14) (fB 15)) (.node (nB 0) (lB (nB 0) 14) (fB 15))) (.node (nB 0) (.node (nB 0) (lB (nB
  0) 14) (fB 15)) (.node (nB 0) (lB (nB 0) 14) (fB 15)))) (.node (nB 0) (.node (nB 0) (fB 16) (.node (nB 0) (lB (nB 0) 14) (fB 15))) (.node (nB 0) (.node (nB 0) (lB (nB 0) 14) (fB
  15)) (.node (nB 0) (lB (nB 0) 14) (fB 15))))) (.node (nB 0) (.node (nB 0) (.node (nB 0) (fB 16) (.node (nB 0) (lB (nB 0) 14) (fB 15))) (.node (nB 0) (.node (nB 0) (lB (nB 0) 14)
  (fB 15)) (.node (nB 0) (lB (nB 0) 14) (fB 15)))) (.node (nB 0) (.node (nB 0) (fB 16) (.node (nB 0) (lB (nB 0) 14) (fB 15))) (.node (nB 0) (.node (nB 0) (lB (nB 0) 14) (fB 15))
  (.node (nB 0) (lB (nB 0) 14) (fB 15)))))))))) true false) 20) (.node .dead (.node (.map [] 0) (.node .dead (fD 18) (.node .dead (.node .dead (.node .dead (fD 15) (lD (.cells 271 1
  1 (lA (.sl 852 0 0 4 (.u 852 0)) 23) true false) 14)) (fD 16)) (fD 17))) (fD 19)) (.node .dead (.node .dead (fD 18) (.node .dead (fD 17) (.node .dead (.node .dead (fD 15) (lD
  (.cells 125 3 3 (.node (.ptr 23 0) (lA (.ptr 801 0) 22) (lA (.ptr 877 0) 22)) true false) 14)) (fD 16)))) (.node .dead (.node .dead (.node .dead (.node .dead (fD 15) (lD (.cells 25
  1 384 (.node (nU 5929342154728227142) (.node (nU 3072) (.node (nU 18446744073709548543) (.node (nU 0) (.node (nU 0) (.node (nU 0) (.node (nU 0) (.node (nU 0) (lA (nU 0) 15) (lA (nU
  0) 15)) (.node (nU 0) (lA (nU 0) 15) (fA 16))) (.node (nU 0) (.node (nU 0) (lA (nU 0) 15) (fA 16)) (.node (nU 0) (lA (nU 0) 15) (fA 16)))) (.node (nU 0) (.node (nU 0) (.node (nU 0)
  (lA (nU 0) 15) (fA 16)) (.node (nU 0) (lA (nU 0) 15) (fA 16))) (.node (nU 0) (.node (nU 0) (lA (nU 0) 15) (fA 16)) (.node (nU 0) (lA (nU 0) 15) (fA 16))))) (.node (nU 0) (.node (nU
  0) (.node (nU 0) (.node (nU 0) (lA (nU 0) 15) (fA 16)) (.node (nU 0) (lA (nU 0) 15) (fA 16))) (.node (nU 0) (.node (nU 0) (lA (nU 0) 15) (fA 16)) (.node (nU 0) (lA (nU 0) 15) (fA
  16)))) (.node (nU 0) (.node (nU 0) (.node (nU 0) (lA (nU 0) 15) (fA 16)) (.node (nU 0) (lA (nU 0) 15) (fA 16))) (.node (nU 0) (.node (nU 0) (lA (nU 0) 15) (fA 16)) (.node (nU 0)
  (lA (nU 0) 15) (fA 16)))))) (.node (nU 0) (.node (nU 0) (.node (nU 0) (.node (nU 0) (.node (nU 0) (lA (nU 0) 15) (fA 16)) (.node (nU 0) (lA (nU 0) 15) (fA 16))) (.node (nU 0)
  (.node (nU 0) (lA (nU 0) 15) (fA 16)) (.node (nU 0) (lA (nU 0) 15) (fA 16)))) (.node (nU 0) (.node (nU 0) (.node (nU 0) (lA (nU 0) 15) (fA 16)) (.node (nU 0) (lA (nU 0) 15) (fA
  16))) (.node (nU 0) (.node (nU 0) (lA (nU 0) 15) (fA 16)) (.node (nU 0) (lA (nU 0) 15) (fA 16))))) (.node (nU 0) (.node (nU 0) (.node (nU 0) (.node (nU 0) (lA (nU 0) 15) (fA 16))
  (.node (nU 0) (lA (nU 0) 15) (fA 16))) (.node (nU 0) (.node (nU 0) (lA (nU 0) 15) (fA 16)) (.node (nU 0) (lA (nU 0) 15) (fA 16)))) (.node (nU 0) (.node (nU 0) (.node (nU 0) (lA (nU
  0) 15) (fA 16)) (.node (nU 0) (lA (nU 0) 15) (fA 16))) (.node (nU 0) (.node (nU 0) (lA (nU 0) 15) (fA 16)) (.node (nU 0) (lA (nU 0) 15) (fA 16))))))) (.node (nU 0) (.node (nU 0)
  (.node (nU 0) (.node (nU 0) (.node (nU 0) (.node (nU 1) (lA (nU 0) 15) (fA 16)) (.node (nU 0) (lA (nU 0) 15) (fA 16))) (.node (nU 0) (.node (nU 0) (lA (nU 0) 15) (fA 16)) (.node
  (nU 0) (lA (nU 0) 15) (fA 16)))) (.node (nU 0) (.node (nU 0) (.node (nU 0) (lA (nU 0) 15) (fA 16)) (.node (nU 0) (lA (nU 0) 15) (fA 16))) (.node (nU 0) (.node (nU 0) (lA (nU 0) 15)
  (fA 16)) (.node (nU 0) (lA (nU 0) 15) (fA 16))))) (.node (nU 0) (.node (nU 0) (.node (nU 0) (.node (nU 0) (lA (nU 0) 15) (fA 16)) (.node (nU 0) (lA (nU 0) 15) (fA 16))) (.node (nU
  0) (.node (nU 0) (lA (nU 0) 15) (fA 16)) (.node (nU 0) (lA (nU 0) 15) (fA 16)))) (.node (nU 0) (.node (nU 0) (.node (nU 0) (lA (nU 0) 15) (fA 16)) (.node (nU 0) (lA (nU 0) 15) (fA
  16))) (.node (nU 0) (.node (nU 0) (lA (nU 0) 15) (fA 16)) (.node (nU 0) (lA (nU 0) 15) (fA 16)))))) (.node (nU 0) (.node (nU 0) (.node (nU 0) (.node (nU 0) (.node (nU 0) (lA (nU 0)
  15) (fA 16)) (.node (nU 0) (lA (nU 0) 15) (fA 16))) (.node (nU 0) (.node (nU 0) (lA (nU 0) 15) (fA 16)) (.node (nU 0) (lA (nU 0) 15) (fA 16)))) (.node (nU 0) (.node (nU 0) (.node
  (nU 0) (lA (nU 0) 15) (fA 16)) (.node (nU 0) (lA (nU 0) 15) (fA 16))) (.node (nU 0) (.node (nU 0) (lA (nU 0) 15) (fA 16)) (.node (nU 0) (lA (nU 0) 15) (fA 16))))) (.node (nU 0)
  (.node (nU 0) (.node (nU 0) (.node (nU 0) (lA (nU 0) 15) (fA 16)) (.node (nU 0) (lA (nU 0) 15) (fA 16))) (.node (nU 0) (.node (nU 0) (lA (nU 0) 15) (fA 16)) (.node (nU 0) (lA (nU
  0) 15) (fA 16)))) (.node (nU 0) (.node (nU 0) (.node (nU 0) (lA (nU 0) 15) (fA 16)) (.node (nU 0) (lA (nU 0) 15) (fA 16))) (.node (nU 0) (.node (nU 0) (lA (nU 0) 15) (fA 16))
  (.node (nU 0) (lA (nU 0) 15) (fA 16)))))))) (.node (nU 1088) (.node (nU 0) (.node (nU 0) (.node (nU 0) (.node (nU 0) (.node (nU 0) (.node (nU 3) (lA (nU 0) 15) (fA 16)) (.node (nU
  0) (lA (nU 0) 15) (fA 16))) (.node (nU 0) (.node (nU 0) (lA (nU 0) 15) (fA 16)) (.node (nU 0) (lA (nU 0) 15) (fA 16)))) (.node (nU 0) (.node (nU 0) (.node (nU 0) (lA (nU 0) 15) (fA
  16)) (.node (nU 0) (lA (nU 0) 15) (fA 16))) (.node (nU 0) (.node (nU 0) (lA (nU 0) 15) (fA 16)) (.node (nU 0) (lA (nU 0) 15) (fA 16))))) (.node (nU 0) (.node (nU 0) (.node (nU 0)
  (.node (nU 5495893775785918464) (lA (nU 0) 15) (fA 16)) (.node (nU 0) (lA (nU 0) 15) (fA 16))) (.node (nU 0) (.node (nU 0) (lA (nU 0) 15) (fA 16)) (.node (nU 0) (lA (nU 0) 15) (fA
  16)))) (.node (nU 0) (.node (nU 0) (.node (nU 0) (lA (nU 0) 15) (fA 16)) (.node (nU 0) (lA (nU 0) 15) (fA 16))) (.node (nU 0) (.node (nU 0) (lA (nU 0) 15) (fA 16)) (.node (nU 0)
  (lA (nU 0) 15) (fA 16)))))) (.node (nU 0) (.node (nU 0) (.node (nU 0) (.node (nU 0) (.node (nU 0) (lA (nU 0) 15) (fA 16)) (.node (nU 0) (lA (nU 0) 15) (fA 16))) (.node (nU 0)
  (.node (nU 0) (lA (nU 0) 15) (fA 16)) (.node (nU 0) (lA (nU 0) 15) (fA 16)))) (.node (nU 0) (.node (nU 0) (.node (nU 0) (lA (nU 0) 15) (fA 16)) (.node (nU 0) (lA (nU 0) 15) (fA
  16))) (.node (nU 0) (.node (nU 0) (lA (nU 0) 15) (fA 16)) (.node (nU 0) (lA (nU 0) 15) (fA 16))))) (.node (nU 0) (.node (nU 0) (.node (nU 0) (.node (nU 1088) (lA (nU 0) 15) (fA
  16)) (.node (nU 0) (lA (nU 0) 15) (fA 16))) (.node (nU 0) (.node (nU 0) (lA (nU 0) 15) (fA 16)) (.node (nU 0) (lA (nU 0) 15) (fA 16)))) (.node (nU 0) (.node (nU 0) (.node (nU 0)
  (lA (nU 0) 15) (fA 16)) (.node (nU 0) (lA (nU 0) 15) (fA 16))) (.node (nU 0) (.node (nU 0) (lA (nU 0) 15) (fA 16)) (.node (nU 0) (lA (nU 0) 15) (fA 16))))))) (.node (nU 0) (.node
  (nU 0) (.node (nU 0) (.node (nU 0) (.node (nU 0) (.node (nU 0) (lA (nU 0) 15) (fA 16)) (.node (nU 0) (lA (nU 0) 15) (fA 16))) (.node (nU 0) (.node (nU 0) (lA (nU 0) 15) (fA 16))
  (.node (nU 0) (lA (nU 0) 15) (fA 16)))) (.node (nU 0) (.node (nU 0) (.node (nU 0) (lA (nU 0) 15) (fA 16)) (.node (nU 0) (lA (nU 0) 15) (fA 16))) (.node (nU 0) (.node (nU 0) (lA (nU
  0) 15) (fA 16)) (.node (nU 0) (lA (nU 0) 15) (fA 16))))) (.node (nU 0) (.node (nU 0) (.node (nU 0) (.node (nU 0) (lA (nU 0) 15) (fA 16)) (.node (nU 0) (lA (nU 0) 15) (fA 16)))
  (.node (nU 0) (.node (nU 0) (lA (nU 0) 15) (fA 16)) (.node (nU 0) (lA (nU 0) 15) (fA 16)))) (.node (nU 0) (.node (nU 0) (.node (nU 0) (lA (nU 0) 15) (fA 16)) (.node (nU 0) (lA (nU
  0) 15) (fA 16))) (.node (nU 0) (.node (nU 0) (lA (nU 0) 15) (fA 16)) (.node (nU 0) (lA (nU 0) 15) (fA 16)))))) (.node (nU 0) (.node (nU 0) (.node (nU 0) (.node (nU 0) (.node (nU 0)
  (lA (nU 0) 15) (fA 16)) (.node (nU 0) (lA (nU 0) 15) (fA 16))) (.node (nU 0) (.node (nU 0) (lA (nU 0) 15) (fA 16)) (.node (nU 0) (lA (nU 0) 15) (fA 16)))) (.node (nU 0) (.node (nU
  0) (.node (nU 0) (lA (nU 0) 15) (fA 16)) (.node (nU 0) (lA (nU 0) 15) (fA 16))) (.node (nU 0) (.node (nU 0) (lA (nU 0) 15) (fA 16)) (.node (nU 0) (lA (nU 0) 15) (fA 16))))) (.node
  (nU 0) (.node (nU 0) (.node (nU 0) (.node (nU 0) (lA (nU 0) 15) (fA 16)) (.node (nU 0) (lA (nU 0) 15) (fA 16))) (.node (nU 0) (.node (nU 0) (lA (nU 0) 15) (fA 16)) (.node (nU 0)
  (lA (nU 0) 15) (fA 16)))) (.node (nU 0) (.node (nU 0) (.node (nU 0) (lA (nU 0) 15) (fA 16)) (.node (nU 0) (lA (nU 0) 15) (fA 16))) (.node (nU 0) (.node (nU 0) (lA (nU 0) 15) (fA
  16)) (.node (nU 0) (lA (nU 0) 15) (fA 16))))))))) false false) 14)) (fD 16)) (fD 17)) (.node .dead (fD 17) (.node .dead (.node .dead (fD 15) (lD (.cells 227 34 34 (.node (.ptr 878
  0) (.node (nI 0) (.node (nI 0) (.node (nU 0) (.node (nU 0) (lA (.fn (.func 209) [(.ptr 894 0)] []) 18) (fA 19)) (lA (nU 0) 19)) (.node (nU 0) (lA (nU 0) 19) (lA (.bool false) 19)))
  (.node (nI 0) (.node (nU 0) (.node (nU 0) (lA (nI 0) 18) (fA 19)) (lA (nU 0) 19)) (.node (nU 0) (lA (nU 0) 19) (lA (nU 0) 19)))) (.node (nU 5) (.node (nU 1088) (.node (nU 0) (.node
  (nU 0) (lA (.bool false) 18) (fA 19)) (lA (nU 0) 19)) (.node (nU 0) (lA (nU 0) 19) (lA (nU 0) 19))) (.node (nU 0) (.node (nU 0) (lA (nU 0) 19) (lA (nU 0) 19)) (.node (nU 0) (lA (nU
  0) 19) (lA (.ifc 218 (.ptr 909 0)) 19))))) true false) 14)) (fD 16))))))))), 966⟩,
  [.lp (codeAt Tryz.f68 [1, 0, 1, 0, 0]), .blk 0, .code (codeAt Tryz.f68 [1, 1])]⟩
set_option maxRecDepth 1000000 in
theorem part3 : cutR [0, 2, 4, 6, 10, 22, 23, 796, 798, 799, 800, 801, 803, 804, 805, 806, 852, 876, 877, 878, 879, 880, 881, 883, 884, 891, 892, 893, 894, 896, 900, 909, 951] (iterN (stepF ctx) 9200 s2) = .inl s3 := by kernel_rfl
end Go.Proofs.YtelipbpnplcofaaGreat.schedNil
