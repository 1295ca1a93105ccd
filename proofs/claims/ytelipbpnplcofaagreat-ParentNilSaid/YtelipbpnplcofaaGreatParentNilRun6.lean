/-
  PROVED HERE: parts of the run of the evaluator from the call of ParentNil, by the kernel.
  Conditions: none.
-/
import Derived.KernelRfl
import Derived.Test.YtelipbpnplcofaaGreatParentNilRun5
namespace Go.Proofs.YtelipbpnplcofaaGreat.parentNil
open Go.Lev
/-- where the run stands at the end of part 6 -/
noncomputable def s6 : St :=
  ⟨⟨11, 59, [], .normal, none,
  [⟨3, 54, [], .normal, none, .run, (.node (.bool false) (.node .nil (.node (.bool true) (.node (.bool true) (.node (.tup [(.bool true), (nI 1)]) (lU
  (.bool true) 18) (lU (.bool true) 18)) (.node (.bool true) (lU (nI 1) 18) (fU 19))) (.node (.tup [(.bool true), (nI 1)]) (.node (.ptr 2 0) (lU (.bool true) 18) (lU (.bool true)
  18)) (.node (.bool true) (lU .nil 18) (fU 19)))) (.node (.bool true) (.node (.tup [(.bool true), (nI 1)]) (.node (nI 1) (lU (.bool true) 18) (lU (.bool true) 18)) (.node (nI 1) (lU
  (.bool true) 18) (fU 19))) (.node (nI 1) (.node (.bool true) (lU (.bool true) 18) (fU 19)) (.node (.bool true) (lU (.bool true) 18) (fU 19))))) (.node (.ptr 0 0) (.node (nI 1)
  (.node (nI 1) (.node (.bool true) (lU (nI 1) 18) (lU (.bool false) 18)) (.node (.bool true) (lU (.bool true) 18) (fU 19))) (.node (.bool true) (.node (.tup [(.bool true), (nI 1)])
  (lU (.bool true) 18) (fU 19)) (.node (.bool true) (lU (.bool false) 18) (fU 19)))) (.node (nI 1) (.node .nil (.node (.tup [(.bool true), (nI 1)]) (lU (.bool true) 18) (lU (.bool
  true) 18)) (.node (.bool true) (lU (.bool true) 18) (fU 19))) (.node (.tup [(.bool true), (nI 1)]) (.node (nI 1) (lU (.bool true) 18) (fU 19)) (.node (.bool true) (lU (.bool true)
  18) (fU 19)))))), [.reg (opsAt Tryz.f3 [1, 1, 1, 1, 1, 1, 0]) ((opsAt Tryz.f3 [1, 1, 1, 1, 1, 1, 0]).toList.drop 29), .code (codeAt Tryz.f3 [1, 1, 1, 1, 1, 1, 1])]⟩]⟩,
  .run,
 
  (.node (.bool false) (.node (.ptr 1578 0) (.node (.ptr 1582 0) (.node undefV (lU (.ptr 1578 0) 19) (lU (nI 107) 19)) (.node (.agg [(nI 4), (.sl 3 0 0 4 (.k 4)), (nI 2), (nI 9), (nI
  0), (nI 0)]) (lU (.ptr 1582 0) 19) (lU (.bool false) 19))) (.node (.bool false) (.node (.sl 3 0 0 4 (.k 4)) (lU (.ptr 1578 0) 19) (lU (.ptr 1582 0) 19)) (.node (.ptr 1578 0) (lU
  (.bool true) 19) (lU (.bool false) 19)))) (.node (.ptr 1579 0) (.node (nI 107) (.node (.tup [(.ptr 1578 0), (.agg [(nI 1), (nU 3), (nU 2304)])]) (lU (.bool false) 19) (lU (.tup
  [(.bool false), (nI 0)]) 19)) (.node (.tup [(.ptr 1578 0), (.agg [(nI 1), (nU 3), (nU 2304)])]) (lU (nI 107) 19) (lU (nI 0) 19))) (.node (nI 0) (.node (.agg [(nI 4), (.sl 3 0 0 4
  (.k 4)), (nI 2), (nI 9)]) (lU (.agg [(nI 1), (nU 3), (nU 2304)]) 19) (lU (.tup [(.bool false), (nI 0)]) 19)) (.node (.agg [(nI 1), (nU 3), (nU 2304)]) (lU (nI 106) 19) (fU
  20))))),
  ⟨(.node (.cells 37 16 16 (.node .nil (.node (nI 0) (.node (nI 0) (.node .nil (lA (nI 0) 19) (fA 20)) (lA .nilif 20)) (.node (nU 0) (lA (nU 0) 20) (lA (.bool false) 20)))
  (.node .nilsl (.node (nU 0) (lA .nil 20) (lA .nilfn 20)) (.node .nil (lA (nU 0) 20) (lA (.bool false) 20)))) true false) (.node (.cells 28 3 3 (.node (nI 1) (lA (nU 1) 22) (lA (nU
  1088) 22)) true false) (.node (.cells 25 1 4 (.node (nU 1) (.node (nU 2) (lA (nU 4) 21) (fA 22)) (lA (nU 3) 22)) true false) (.node .dead (.node .dead (.node .dead (.node .dead (fD
  17) (.node .dead (.node .dead (.node .dead (fD 14) (lD (.cells 380 78 78 (.node (.ptr 53 0) (.node (nU 2304) (.node (.bool true) (.node (nU 0) (.node (nU 1280) (.node (nU 0) (lA
  (nU 4) 17) (fA 18)) (lA (nU 0) 18)) (.node (nU 0) (.node (nU 1280) (lA (nU 1280) 17) (fA 18)) (lA (.bool true) 18))) (.node (nU 0) (.node (nU 0) (.node (nU 0) (lA (nU 0) 17) (fA
  18)) (lA (nU 0) 18)) (.node (nU 0) (.node (nU 0) (lA (nU 0) 17) (fA 18)) (lA (nU 0) 18)))) (.node (nU 3) (.node (nU 0) (.node (nU 0) (.node (nU 0) (lA (nU 0) 17) (fA 18)) (lA (nU
  0) 18)) (.node (nU 0) (.node (nU 0) (lA (nU 0) 17) (fA 18)) (lA (nI 0) 18))) (.node (nU 1216) (.node (nU 0) (.node (nU 1216) (lA (nU 0) 17) (fA 18)) (lA (.bool false) 18)) (.node
  (nU 3) (.node (nU 0) (lA (nU 0) 17) (fA 18)) (lA (nU 2304) 18))))) (.node (.int .i64 (.negSucc 0)) (.node (nU 5495893775785918464) (.node (nU 2304) (.node (nU 0) (.node (nU 2304)
  (lA (nU 0) 17) (fA 18)) (lA (nU 0) 18)) (.node (nU 0) (.node (nU 0) (lA (nU 0) 17) (fA 18)) (lA (nI 0) 18))) (.node (nU 3) (.node (nU 0) (.node (nU 3) (lA (nU 0) 17) (fA 18)) (lA
  (nU 0) 18)) (.node (nU 5495893775785918464) (.node (nU 0) (lA (nU 0) 17) (fA 18)) (lA (nU 0) 18)))) (.node (nU 0) (.node (nU 0) (.node (nU 0) (.node (nU 0) (lA (nU 0) 17) (fA 18))
  (lA (nU 0) 18)) (.node (nU 0) (.node (nU 0) (lA (nU 0) 17) (fA 18)) (lA (nU 3) 18))) (.node (nU 4) (.node (nU 0) (.node (nU 4) (lA (nU 1216) 17) (fA 18)) (lA (.fn (.func 360)
  [(.ptr 1599 0)] []) 18)) (.node (nU 0) (lA (nU 0) 18) (lA (nU 3) 18)))))) true false) 13)) (.node .dead (lD (.cells 198 7 7 (.node (nI 5120) (.node (.sl 1341 0 0 5 (.k 5)) (lA
  (.ptr 1346 0) 21) (lA (.ptr 1348 0) 21)) (.node (.ptr 1345 0) (lA (.ptr 1347 0) 21) (lA (.map 1342) 21))) true false) 13) (fD 14))) (fD 16))) (fD 18)) (.node .dead (fD 18) (.node
  .dead (.node .dead (.node .dead (.node .dead (fD 14) (lD (.cells 227 34 34 (.node (.ptr 1578 0) (.node (nI 0) (.node (nI 1) (.node (nU 0) (.node (nU 0) (lA (.fn (.func 209) [(.ptr
  1583 0)] []) 18) (fA 19)) (lA (nU 0) 19)) (.node (nU 4) (lA (nU 1280) 19) (lA (.bool false) 19))) (.node (nI 0) (.node (nU 2304) (.node (nU 0) (lA (nI 5) 18) (fA 19)) (lA (nU 0)
  19)) (.node (nU 0) (lA (nU 0) 19) (lA (nU 0) 19)))) (.node (nU 3) (.node (nU 2304) (.node (nU 0) (.node (nU 0) (lA (.bool true) 18) (fA 19)) (lA (nU 0) 19)) (.node (nU 0) (lA (nU
  0) 19) (lA (nU 0) 19))) (.node (nU 3) (.node (nU 3) (lA (nU 1216) 19) (lA (nU 0) 19)) (.node (nU 0) (lA (nU 0) 19) (lA (.ifc 218 (.ptr 1599 0)) 19))))) true false) 13)) (fD 15))
  (fD 16)) (.node .dead (.node .dead (fD 15) (.node .dead (fD 14) (lD (.cells 297 2 2 (.node (nU 16) (lA (nU 2496) 22) (fA 23)) false false) 13))) (fD 16))))) (fD 20)) (.node .dead
  (.node .dead (.node .dead (.node .dead (fD 17) (.node .dead (.node .dead (fD 15) (.node .dead (lD (.cells 271 1 1 (lA .nilsl 23) true false) 13) (fD 14))) (fD 16))) (fD 18)) (fD
  19)) (.node .dead (.node .dead (fD 18) (.node .dead (.node .dead (.node .dead (.node .dead (fD 14) (lD (.cells 99 3 3 (.node (nI 1) (lA (nU 3) 22) (lA (nU 2304) 22)) true false)
  13)) (fD 15)) (fD 16)) (fD 17))) (fD 19)))) (.node .dead (.node .dead (.node .dead (.node .dead (.node .dead (fD 17) (.node .dead (.node .dead (fD 15) (.node .dead (lD (.cells 271
  1 1 (lA .nilsl 23) true false) 13) (fD 14))) (fD 16))) (fD 18)) (.node .dead (fD 18) (.node .dead (fD 17) (.node .dead (.node .dead (fD 15) (.node .dead (fD 14) (lD (.cells 22 1 1
  (lA (.ptr 1582 0) 23) true false) 13))) (fD 16))))) (.node .dead (.node .dead (fD 18) (.node .dead (.node .dead (.node .dead (.node .dead (fD 14) (lD (.cells 255 66 66 (.node (nI
  1) (.node (.map 1576) (.node (nU 0) (.node (nU 0) (.node (nU 0) (.node (nU 0) (lA (nU 0) 17) (fA 18)) (lA (nU 0) 18)) (.node (nU 0) (lA (nU 0) 18) (lA (nU 0) 18))) (.node (nU 0)
  (.node (nU 0) (lA (nU 0) 18) (lA (nU 0) 18)) (.node (nU 0) (lA (nU 0) 18) (lA (nU 0) 18)))) (.node (nU 0) (.node (nU 0) (.node (nU 0) (.node (nU 0) (lA (nU 0) 17) (fA 18)) (lA (nU
  0) 18)) (.node (nU 0) (lA (nU 0) 18) (lA (nU 0) 18))) (.node (nU 0) (.node (nU 0) (lA (nU 0) 18) (lA (nU 0) 18)) (.node (nU 0) (lA (nU 0) 18) (lA (nU 0) 18))))) (.node (nU 0)
  (.node (nU 0) (.node (nU 0) (.node (nU 0) (.node (nU 0) (lA (nU 0) 17) (fA 18)) (lA (nU 0) 18)) (.node (nU 0) (lA (nU 0) 18) (lA (nU 0) 18))) (.node (nU 0) (.node (nU 0) (lA (nU 0)
  18) (lA (nU 0) 18)) (.node (nU 0) (lA (nU 0) 18) (lA (nU 0) 18)))) (.node (nU 0) (.node (nU 0) (.node (nU 0) (lA (nU 0) 18) (lA (nU 0) 18)) (.node (nU 0) (lA (nU 0) 18) (lA (nU 0)
  18))) (.node (nU 0) (.node (nU 0) (lA (nU 0) 18) (lA (nU 0) 18)) (.node (nU 0) (lA (nU 0) 18) (lA (nU 0) 18)))))) true false) 13)) (fD 15)) (fD 16)) (fD 17))) (fD 19))) (.node
  .dead (.node .dead (fD 19) (lD (.cells 128 7 7 (.node (.sl 1340 0 0 640 (.u 1340 0)) (.node (.sl 1338 0 0 640 (.u 1338 0)) (lA (nU 70) 21) (lA (nU 5) 21)) (.node (.map 52) (lA (nU
  26) 21) (lA (nU 5) 21))) true false) 18)) (.node .dead (.node .dead (fD 18) (.node .dead (.node .dead (.node .dead (.node .dead (fD 14) (lD (.cells 28 3 3 (.node (nI 1) (lA (nU 3)
  22) (lA (nU 2304) 22)) true false) 13)) (fD 15)) (fD 16)) (fD 17))) (.node .dead (fD 18) (.node .dead (.node .dead (.node .dead (fD 15) (.node .dead (lD (.cells 205 2 10 (.node (nI
  0) (.node (nU 0) (.node (nU 15) (lA (nU 0) 20) (fA 21)) (.node (nU 7) (lA (nU 0) 20) (fA 21))) (.node (nI 1) (.node (nI 3) (lA (nI 0) 20) (fA 21)) (lA (nI 0) 21))) true false) 13)
  (fD 14))) (fD 16)) (.node .dead (fD 16) (.node .dead (fD 15) (.node .dead (lD (.cells 26 1 5 (.node (nU 2688) (.node (nU 2880) (lA (nU 2304) 21) (fA 22)) (.node (nU 2496) (lA (nU
  2112) 21) (fA 22))) false false) 13) (fD 14)))))))))) (.node (.cells 37 16 16 (.node .nil (.node (nI 0) (.node (nI 0) (.node .nil (lA (nI 1) 19) (fA 20)) (lA .nilif 20)) (.node (nU
  0) (lA (nU 0) 20) (lA (.bool false) 20))) (.node (.sl 1 0 0 1 (.k 1)) (.node (nU 0) (lA .nil 20) (lA (.fn (.func 36) [(.ptr 2 0)] []) 20)) (.node .nil (lA (nU 0) 20) (lA (.bool
  true) 20)))) true false) (.node .dead (.node .dead (.node .dead (fD 19) (.node .dead (fD 18) (.node .dead (fD 17) (.node .dead (.node .dead (fD 15) (.node .dead (fD 14) (lD (.cells
  341 7 7 (.node (.ptr 53 0) (.node (nI 0) (lA (nI 0) 21) (lA (.bool false) 21)) (.node (.sl 1903 0 0 1 (.u 1903 0)) (lA (.fn (.func 221) [(.ptr 1904 0)] []) 21) (lA (nI 0) 21)))
  true false) 13))) (fD 16))))) (.node .dead (.node .dead (fD 18) (.node .dead (.node .dead (.node .dead (.node .dead (fD 14) (lD (.map [⟨(nU 16), (nI 0), 0⟩] 1) 13)) (fD 15)) (fD
  16)) (fD 17))) (.node .dead (fD 18) (.node .dead (.node .dead (fD 16) (.node .dead (fD 15) (.node .dead (lD (.cells 26 1 15 (.node (nU 1344) (.node (nU 1536) (.node (nU 1600) (lA
  (nU 1984) 20) (lA (nU 1280) 20)) (.node (nU 1792) (lA (nU 1856) 20) (lA (nU 1152) 20))) (.node (nU 1408) (.node (nU 1664) (lA (nU 1920) 20) (lA (nU 1216) 20)) (.node (nU 1472) (lA
  (nU 1728) 20) (lA (nU 1088) 20)))) false false) 13) (fD 14)))) (fD 17))))) (.node .dead (.node .dead (.node .dead (.node .dead (fD 17) (.node .dead (.node .dead (fD 15) (.node
  .dead (lD (.cells 271 1 1 (lA (.sl 1533 0 0 2 (.u 1533 0)) 23) true false) 13) (fD 14))) (fD 16))) (fD 18)) (lD (.map [] 4) 18)) (.node .dead (fD 19) (.node .dead (fD 18) (.node
  .dead (.node .dead (.node .dead (fD 15) (.node .dead (lD (.cells 25 1 640 (.node (nU 5929342154728227142) (.node (nU 5120) (.node (nU 18446744073709546495) (.node (nU 0) (.node (nU
  0) (.node (nU 0) (.node (nU 0) (.node (nU 0) (.node (nU 0) (lA (nU 0) 14) (fA 15)) (.node (nU 0) (lA (nU 0) 14) (fA 15))) (.node (nU 0) (.node (nU 0) (lA (nU 0) 14) (fA 15)) (lA
  (nU 0) 15))) (.node (nU 0) (.node (nU 0) (.node (nU 0) (lA (nU 0) 14) (fA 15)) (lA (nU 0) 15)) (.node (nU 0) (.node (nU 0) (lA (nU 0) 14) (fA 15)) (lA (nU 0) 15)))) (.node (nU 0)
  (.node (nU 0) (.node (nU 0) (.node (nU 0) (lA (nU 0) 14) (fA 15)) (lA (nU 0) 15)) (.node (nU 0) (.node (nU 0) (lA (nU 0) 14) (fA 15)) (lA (nU 0) 15))) (.node (nU 0) (.node (nU 0)
  (.node (nU 0) (lA (nU 0) 14) (fA 15)) (lA (nU 0) 15)) (.node (nU 0) (.node (nU 0) (lA (nU 0) 14) (fA 15)) (lA (nU 0) 15))))) (.node (nU 0) (.node (nU 0) (.node (nU 0) (.node (nU 0)
  (.node (nU 0) (lA (nU 0) 14) (fA 15)) (lA (nU 0) 15)) (.node (nU 0) (.node (nU 0) (lA (nU 0) 14) (fA 15)) (lA (nU 0) 15))) (.node (nU 0) (.node (nU 0) (.node (nU 0) (lA (nU 0) 14)
  (fA 15)) (lA (nU 0) 15)) (.node (nU 0) (.node (nU 0) (lA (nU 0) 14) (fA 15)) (lA (nU 0) 15)))) (.node (nU 0) (.node (nU 0) (.node (nU 0) (.node (nU 0) (lA (nU 0) 14) (fA 15)) (lA
  (nU 0) 15)) (.node (nU 0) (.node (nU 0) (lA (nU 0) 14) (fA 15)) (lA (nU 0) 15))) (.node (nU 0) (.node (nU 0) (.node (nU 0) (lA (nU 0) 14) (fA 15)) (lA (nU 0) 15)) (.node (nU 0)
  (.node (nU 0) (lA (nU 0) 14) (fA 15)) (lA (nU 0) 15)))))) (.node (nU 0) (.node (nU 0) (.node (nU 0) (.node (nU 0) (.node (nU 0) (.node (nU 0) (lA (nU 0) 14) (fA 15)) (lA (nU 0)
  15)) (.node (nU 0) (.node (nU 0) (lA (nU 0) 14) (fA 15)) (lA (nU 0) 15))) (.node (nU 0) (.node (nU 0) (.node (nU 0) (lA (nU 0) 14) (fA 15)) (lA (nU 0) 15)) (.node (nU 0) (.node (nU
  0) (lA (nU 0) 14) (fA 15)) (lA (nU 0) 15)))) (.node (nU 0) (.node (nU 0) (.node (nU 0) (.node (nU 1152) (lA (nU 0) 14) (fA 15)) (lA (nU 0) 15)) (.node (nU 0) (.node (nU 0) (lA (nU
  0) 14) (fA 15)) (lA (nU 0) 15))) (.node (nU 0) (.node (nU 0) (.node (nU 0) (lA (nU 0) 14) (fA 15)) (lA (nU 0) 15)) (.node (nU 0) (.node (nU 0) (lA (nU 0) 14) (fA 15)) (lA (nU 0)
  15))))) (.node (nU 0) (.node (nU 0) (.node (nU 0) (.node (nU 0) (.node (nU 0) (lA (nU 0) 14) (fA 15)) (lA (nU 0) 15)) (.node (nU 0) (.node (nU 0) (lA (nU 0) 14) (fA 15)) (lA (nU 0)
  15))) (.node (nU 0) (.node (nU 0) (.node (nU 1280) (lA (nU 0) 14) (fA 15)) (lA (nU 0) 15)) (.node (nU 0) (.node (nU 0) (lA (nU 0) 14) (fA 15)) (lA (nU 0) 15)))) (.node (nU 0)
  (.node (nU 0) (.node (nU 0) (.node (nU 0) (lA (nU 0) 14) (fA 15)) (lA (nU 0) 15)) (.node (nU 0) (.node (nU 0) (lA (nU 0) 14) (fA 15)) (lA (nU 0) 15))) (.node (nU 0) (.node (nU 0)
  (.node (nU 0) (lA (nU 0) 14) (fA 15)) (lA (nU 0) 15)) (.node (nU 0) (.node (nU 0) (lA (nU 0) 14) (fA 15)) (lA (nU 0) 15))))))) (.node (nU 0) (.node (nU 0) (.node (nU 0) (.node (nU
  0) (.node (nU 0) (.node (nU 15) (.node (nU 7) (lA (nU 0) 14) (fA 15)) (lA (nU 0) 15)) (.node (nU 0) (.node (nU 2304) (lA (nU 0) 14) (fA 15)) (lA (nU 0) 15))) (.node (nU 0) (.node
  (nU 52) (.node (nU 3) (lA (nU 0) 14) (fA 15)) (lA (nU 0) 15)) (.node (nU 0) (.node (nU 0) (lA (nU 0) 14) (fA 15)) (lA (nU 0) 15)))) (.node (nU 0) (.node (nU 0) (.node (nU 50)
  (.node (nU 1088) (lA (nU 0) 14) (fA 15)) (lA (nU 0) 15)) (.node (nU 0) (.node (nU 0) (lA (nU 0) 14) (fA 15)) (lA (nU 0) 15))) (.node (nU 0) (.node (nU 0) (.node (nU 0) (lA (nU 0)
  14) (fA 15)) (lA (nU 0) 15)) (.node (nU 0) (.node (nU 0) (lA (nU 0) 14) (fA 15)) (lA (nU 0) 15))))) (.node (nU 0) (.node (nU 0) (.node (nU 0) (.node (nU 49) (.node (nU 0) (lA (nU
  0) 14) (fA 15)) (lA (nU 0) 15)) (.node (nU 0) (.node (nU 0) (lA (nU 0) 14) (fA 15)) (lA (nU 0) 15))) (.node (nU 0) (.node (nU 0) (.node (nU 1216) (lA (nU 0) 14) (fA 15)) (lA (nU 0)
  15)) (.node (nU 0) (.node (nU 0) (lA (nU 0) 14) (fA 15)) (lA (nU 0) 15)))) (.node (nU 0) (.node (nU 0) (.node (nU 51) (.node (nU 0) (lA (nU 0) 14) (fA 15)) (lA (nU 0) 15)) (.node
  (nU 0) (.node (nU 0) (lA (nU 0) 14) (fA 15)) (lA (nU 0) 15))) (.node (nU 0) (.node (nU 0) (.node (nU 0) (lA (nU 0) 14) (fA 15)) (lA (nU 0) 15)) (.node (nU 0) (.node (nU 0) (lA (nU
  0) 14) (fA 15)) (lA (nU 0) 15)))))) (.node (nU 0) (.node (nU 0) (.node (nU 0) (.node (nU 0) (.node (nU 0) (.node (nU 0) (lA (nU 0) 14) (fA 15)) (lA (nU 0) 15)) (.node (nU 0) (.node
  (nU 0) (lA (nU 0) 14) (fA 15)) (lA (nU 0) 15))) (.node (nU 0) (.node (nU 0) (.node (nU 0) (lA (nU 0) 14) (fA 15)) (lA (nU 0) 15)) (.node (nU 0) (.node (nU 0) (lA (nU 0) 14) (fA
  15)) (lA (nU 0) 15)))) (.node (nU 0) (.node (nU 0) (.node (nU 0) (.node (nU 0) (lA (nU 0) 14) (fA 15)) (lA (nU 0) 15)) (.node (nU 0) (.node (nU 0) (lA (nU 0) 14) (fA 15)) (lA (nU
  0) 15))) (.node (nU 0) (.node (nU 0) (.node (nU 0) (lA (nU 0) 14) (fA 15)) (lA (nU 0) 15)) (.node (nU 0) (.node (nU 0) (lA (nU 0) 14) (fA 15)) (lA (nU 0) 15))))) (.node (nU 0)
  (.node (nU 0) (.node (nU 0) (.node (nU 0) (.node (nU 0) (lA (nU 0) 14) (fA 15)) (lA (nU 0) 15)) (.node (nU 0) (.node (nU 0) (lA (nU 0) 14) (fA 15)) (lA (nU 0) 15))) (.node (nU 0)
  (.node (nU 0) (.node (nU 0) (lA (nU 0) 14) (fA 15)) (lA (nU 0) 15)) (.node (nU 0) (.node (nU 0) (lA (nU 0) 14) (fA 15)) (lA (nU 0) 15)))) (.node (nU 0) (.node (nU 0) (.node (nU 0)
  (.node (nU 0) (lA (nU 0) 14) (fA 15)) (lA (nU 0) 15)) (.node (nU 0) (.node (nU 0) (lA (nU 0) 14) (fA 15)) (lA (nU 0) 15))) (.node (nU 0) (.node (nU 0) (.node (nU 0) (lA (nU 0) 14)
  (fA 15)) (lA (nU 0) 15)) (.node (nU 0) (.node (nU 0) (lA (nU 0) 14) (fA 15)) (lA (nU 0) 15)))))))) (.node (nU 2112) (.node (nU 0) (.node (nU 0) (.node (nU 0) (.node (nU 0) (.node
  (nU 0) (.node (nU 1) (.node (nU 3) (lA (nU 0) 14) (fA 15)) (lA (nU 0) 15)) (.node (nU 0) (.node (nU 3) (lA (nU 0) 14) (fA 15)) (lA (nU 0) 15))) (.node (nU 0) (.node (nU 1) (.node
  (nU 5495893775785918464) (lA (nU 0) 14) (fA 15)) (lA (nU 0) 15)) (.node (nU 0) (.node (nU 0) (lA (nU 0) 14) (fA 15)) (lA (nU 0) 15)))) (.node (nU 0) (.node (nU 0) (.node (nU 1)
  (.node (nU 1) (lA (nU 0) 14) (fA 15)) (lA (nU 0) 15)) (.node (nU 0) (.node (nU 0) (lA (nU 0) 14) (fA 15)) (lA (nU 0) 15))) (.node (nU 0) (.node (nU 0) (.node (nU 0) (lA (nU 0) 14)
  (fA 15)) (lA (nU 0) 15)) (.node (nU 0) (.node (nU 0) (lA (nU 0) 14) (fA 15)) (lA (nU 0) 15))))) (.node (nU 0) (.node (nU 0) (.node (nU 0) (.node (nU 1) (.node (nU
  5495893775785918464) (lA (nU 0) 14) (fA 15)) (lA (nU 0) 15)) (.node (nU 0) (.node (nU 0) (lA (nU 0) 14) (fA 15)) (lA (nU 0) 15))) (.node (nU 0) (.node (nU 0) (.node (nU 3) (lA (nU
  0) 14) (fA 15)) (lA (nU 0) 15)) (.node (nU 0) (.node (nU 0) (lA (nU 0) 14) (fA 15)) (lA (nU 0) 15)))) (.node (nU 0) (.node (nU 0) (.node (nU 1) (.node (nU 0) (lA (nU 0) 14) (fA
  15)) (lA (nU 0) 15)) (.node (nU 0) (.node (nU 0) (lA (nU 0) 14) (fA 15)) (lA (nU 0) 15))) (.node (nU 0) (.node (nU 0) (.node (nU 5495893775785918465) (lA (nU 0) 14) (fA 15)) (lA
  (nU 0) 15)) (.node (nU 0) (.node (nU 0) (lA (nU 0) 14) (fA 15)) (lA (nU 0) 15)))))) (.node (nU 0) (.node (nU 0) (.node (nU 0) (.node (nU 0) (.node (nU 0) (.node (nU 0) (lA (nU 0)
  14) (fA 15)) (lA (nU 0) 15)) (.node (nU 0) (.node (nU 0) (lA (nU 0) 14) (fA 15)) (lA (nU 0) 15))) (.node (nU 0) (.node (nU 0) (.node (nU 2304) (lA (nU 0) 14) (fA 15)) (lA (nU 0)
  15)) (.node (nU 0) (.node (nU 0) (lA (nU 0) 14) (fA 15)) (lA (nU 0) 15)))) (.node (nU 0) (.node (nU 0) (.node (nU 0) (.node (nU 0) (lA (nU 0) 14) (fA 15)) (lA (nU 0) 15)) (.node
  (nU 0) (.node (nU 0) (lA (nU 0) 14) (fA 15)) (lA (nU 0) 15))) (.node (nU 0) (.node (nU 0) (.node (nU 0) (lA (nU 0) 14) (fA 15)) (lA (nU 0) 15)) (.node (nU 0) (.node (nU 0) (lA (nU
  0) 14) (fA 15)) (lA (nU 0) 15))))) (.node (nU 0) (.node (nU 0) (.node (nU 0) (.node (nU 0) (.node (nU 2112) (lA (nU 0) 14) (fA 15)) (lA (nU 0) 15)) (.node (nU 0) (.node (nU 0) (lA
  (nU 0) 14) (fA 15)) (lA (nU 0) 15))) (.node (nU 0) (.node (nU 0) (.node (nU 0) (lA (nU 0) 14) (fA 15)) (lA (nU 0) 15)) (.node (nU 0) (.node (nU 0) (lA (nU 0) 14) (fA 15)) (lA (nU
  0) 15)))) (.node (nU 0) (.node (nU 0) (.node (nU 0) (.node (nU 0) (lA (nU 0) 14) (fA 15)) (lA (nU 0) 15)) (.node (nU 0) (.node (nU 0) (lA (nU 0) 14) (fA 15)) (lA (nU 0) 15)))
  (.node (nU 0) (.node (nU 0) (.node (nU 2112) (lA (nU 0) 14) (fA 15)) (lA (nU 0) 15)) (.node (nU 0) (.node (nU 0) (lA (nU 0) 14) (fA 15)) (lA (nU 0) 15))))))) (.node (nU 0) (.node
  (nU 0) (.node (nU 0) (.node (nU 0) (.node (nU 0) (.node (nU 0) (.node (nU 0) (lA (nU 0) 14) (fA 15)) (lA (nU 0) 15)) (.node (nU 0) (.node (nU 0) (lA (nU 0) 14) (fA 15)) (lA (nU 0)
  15))) (.node (nU 0) (.node (nU 0) (.node (nU 0) (lA (nU 0) 14) (fA 15)) (lA (nU 0) 15)) (.node (nU 0) (.node (nU 0) (lA (nU 0) 14) (fA 15)) (lA (nU 0) 15)))) (.node (nU 0) (.node
  (nU 0) (.node (nU 0) (.node (nU 2) (lA (nU 0) 14) (fA 15)) (lA (nU 0) 15)) (.node (nU 0) (.node (nU 0) (lA (nU 0) 14) (fA 15)) (lA (nU 0) 15))) (.node (nU 0) (.node (nU 0) (.node
  (nU 0) (lA (nU 0) 14) (fA 15)) (lA (nU 0) 15)) (.node (nU 0) (.node (nU 0) (lA (nU 0) 14) (fA 15)) (lA (nU 0) 15))))) (.node (nU 0) (.node (nU 0) (.node (nU 0) (.node (nU 0) (.node
  (nU 2304) (lA (nU 0) 14) (fA 15)) (lA (nU 0) 15)) (.node (nU 0) (.node (nU 0) (lA (nU 0) 14) (fA 15)) (lA (nU 0) 15))) (.node (nU 0) (.node (nU 0) (.node (nU 4) (lA (nU 0) 14) (fA
  15)) (lA (nU 0) 15)) (.node (nU 0) (.node (nU 0) (lA (nU 0) 14) (fA 15)) (lA (nU 0) 15)))) (.node (nU 0) (.node (nU 0) (.node (nU 0) (.node (nU 0) (lA (nU 0) 14) (fA 15)) (lA (nU
  0) 15)) (.node (nU 0) (.node (nU 0) (lA (nU 0) 14) (fA 15)) (lA (nU 0) 15))) (.node (nU 0) (.node (nU 0) (.node (nU 0) (lA (nU 0) 14) (fA 15)) (lA (nU 0) 15)) (.node (nU 0) (.node
  (nU 0) (lA (nU 0) 14) (fA 15)) (lA (nU 0) 15)))))) (.node (nU 0) (.node (nU 0) (.node (nU 0) (.node (nU 0) (.node (nU 0) (.node (nU 0) (lA (nU 0) 14) (fA 15)) (lA (nU 0) 15))
  (.node (nU 0) (.node (nU 0) (lA (nU 0) 14) (fA 15)) (lA (nU 0) 15))) (.node (nU 0) (.node (nU 0) (.node (nU 0) (lA (nU 0) 14) (fA 15)) (lA (nU 0) 15)) (.node (nU 0) (.node (nU 0)
  (lA (nU 0) 14) (fA 15)) (lA (nU 0) 15)))) (.node (nU 0) (.node (nU 0) (.node (nU 0) (.node (nU 0) (lA (nU 0) 14) (fA 15)) (lA (nU 0) 15)) (.node (nU 0) (.node (nU 0) (lA (nU 0) 14)
  (fA 15)) (lA (nU 0) 15))) (.node (nU 0) (.node (nU 0) (.node (nU 0) (lA (nU 0) 14) (fA 15)) (lA (nU 0) 15)) (.node (nU 0) (.node (nU 0) (lA (nU 0) 14) (fA 15)) (lA (nU 0) 15)))))
  (.node (nU 0) (.node (nU 0) (.node (nU 0) (.node (nU 0) (.node (nU 0) (lA (nU 0) 14) (fA 15)) (lA (nU 0) 15)) (.node (nU 0) (.node (nU 0) (lA (nU 0) 14) (fA 15)) (lA (nU 0) 15)))
  (.node (nU 0) (.node (nU 0) (.node (nU 0) (lA (nU 0) 14) (fA 15)) (lA (nU 0) 15)) (.node (nU 0) (.node (nU 0) (lA (nU 0) 14) (fA 15)) (lA (nU 0) 15)))) (.node (nU 0) (.node (nU 0)
  (.node (nU 0) (.node (nU 0) (lA (nU 0) 14) (fA 15)) (lA (nU 0) 15)) (.node (nU 0) (.node (nU 0) (lA (nU 0) 14) (fA 15)) (lA (nU 0) 15))) (.node (nU 0) (.node (nU 0) (.node (nU 0)
  (lA (nU 0) 14) (fA 15)) (lA (nU 0) 15)) (.node (nU 0) (.node (nU 0) (lA (nU 0) 14) (fA 15)) (lA (nU 0) 15))))))))) false false) 13) (fD 14))) (fD 16)) (fD 17)))))) (.node .dead
  (.node .dead (.node .dead (.node .dead (.node .dead (fD 17) (.node .dead (.node .dead (fD 15) (.node .dead (lD (.cells 271 1 1 (lA (.sl 1464 0 0 11 (.u 1464 0)) 23) true false) 13)
  (fD 14))) (fD 16))) (fD 18)) (.node .dead (fD 18) (.node .dead (fD 17) (.node .dead (.node .dead (fD 15) (.node .dead (fD 14) (lD (.cells 34 1 1 (lA (.fn (.func 130) [(.ptr 1582
  0)] []) 23) true false) 13))) (fD 16))))) (.node .dead (.node .dead (fD 18) (.node .dead (.node .dead (.node .dead (.node .dead (fD 14) (lD (.cells 125 3 3 (.node (.ptr 53 0) (lA
  (.ptr 1343 0) 22) (lA (.ptr 1577 0) 22)) true false) 13)) (fD 15)) (fD 16)) (fD 17))) (.node .dead (fD 18) (.node .dead (.node .dead (.node .dead (fD 15) (.node .dead (lD (.cells
  25 1 640 (.node (nU 5929342154728227142) (.node (nU 5120) (.node (nU 18446744073709546495) (.node (nU 0) (.node (nU 0) (.node (nU 0) (.node (nU 0) (.node (nU 0) (.node (nU 0) (lA
  (nU 0) 14) (fA 15)) (.node (nU 0) (lA (nU 0) 14) (fA 15))) (.node (nU 0) (.node (nU 0) (lA (nU 0) 14) (fA 15)) (lA (nU 0) 15))) (.node (nU 0) (.node (nU 0) (.node (nU 0) (lA (nU 0)
  14) (fA 15)) (lA (nU 0) 15)) (.node (nU 0) (.node (nU 0) (lA (nU 0) 14) (fA 15)) (lA (nU 0) 15)))) (.node (nU 0) (.node (nU 0) (.node (nU 0) (.node (nU 0) (lA (nU 0) 14) (fA 15))
  (lA (nU 0) 15)) (.node (nU 0) (.node (nU 0) (lA (nU 0) 14) (fA 15)) (lA (nU 0) 15))) (.node (nU 0) (.node (nU 0) (.node (nU 0) (lA (nU 0) 14) (fA 15)) (lA (nU 0) 15)) (.node (nU 0)
  (.node (nU 0) (lA (nU 0) 14) (fA 15)) (lA (nU 0) 15))))) (.node (nU 0) (.node (nU 0) (.node (nU 0) (.node (nU 0) (.node (nU 0) (lA (nU 0) 14) (fA 15)) (lA (nU 0) 15)) (.node (nU 0)
  (.node (nU 0) (lA (nU 0) 14) (fA 15)) (lA (nU 0) 15))) (.node (nU 0) (.node (nU 0) (.node (nU 0) (lA (nU 0) 14) (fA 15)) (lA (nU 0) 15)) (.node (nU 0) (.node (nU 0) (lA (nU 0) 14)
  (fA 15)) (lA (nU 0) 15)))) (.node (nU 0) (.node (nU 0) (.node (nU 0) (.node (nU 0) (lA (nU 0) 14) (fA 15)) (lA (nU 0) 15)) (.node (nU 0) (.node (nU 0) (lA (nU 0) 14) (fA 15)) (lA
  (nU 0) 15))) (.node (nU 0) (.node (nU 0) (.node (nU 0) (lA (nU 0) 14) (fA 15)) (lA (nU 0) 15)) (.node (nU 0) (.node (nU 0) (lA (nU 0) 14) (fA 15)) (lA (nU 0) 15)))))) (.node (nU 0)
  (.node (nU 0) (.node (nU 0) (.node (nU 0) (.node (nU 0) (.node (nU 0) (lA (nU 0) 14) (fA 15)) (lA (nU 0) 15)) (.node (nU 0) (.node (nU 0) (lA (nU 0) 14) (fA 15)) (lA (nU 0) 15)))
  (.node (nU 0) (.node (nU 0) (.node (nU 0) (lA (nU 0) 14) (fA 15)) (lA (nU 0) 15)) (.node (nU 0) (.node (nU 0) (lA (nU 0) 14) (fA 15)) (lA (nU 0) 15)))) (.node (nU 0) (.node (nU 0)
  (.node (nU 0) (.node (nU 1152) (lA (nU 0) 14) (fA 15)) (lA (nU 0) 15)) (.node (nU 0) (.node (nU 0) (lA (nU 0) 14) (fA 15)) (lA (nU 0) 15))) (.node (nU 0) (.node (nU 0) (.node (nU
  0) (lA (nU 0) 14) (fA 15)) (lA (nU 0) 15)) (.node (nU 0) (.node (nU 0) (lA (nU 0) 14) (fA 15)) (lA (nU 0) 15))))) (.node (nU 0) (.node (nU 0) (.node (nU 0) (.node (nU 0) (.node (nU
  0) (lA (nU 0) 14) (fA 15)) (lA (nU 0) 15)) (.node (nU 0) (.node (nU 0) (lA (nU 0) 14) (fA 15)) (lA (nU 0) 15))) (.node (nU 0) (.node (nU 0) (.node (nU 1280) (lA (nU 0) 14) (fA 15))
  (lA (nU 0) 15)) (.node (nU 0) (.node (nU 0) (lA (nU 0) 14) (fA 15)) (lA (nU 0) 15)))) (.node (nU 0) (.node (nU 0) (.node (nU 0) (.node (nU 0) (lA (nU 0) 14) (fA 15)) (lA (nU 0)
  15)) (.node (nU 0) (.node (nU 0) (lA (nU 0) 14) (fA 15)) (lA (nU 0) 15))) (.node (nU 0) (.node (nU 0) (.node (nU 0) (lA (nU 0) 14) (fA 15)) (lA (nU 0) 15)) (.node (nU 0) (.node (nU
  0) (lA (nU 0) 14) (fA 15)) (lA (nU 0) 15))))))) (.node (nU 0) (.node (nU 0) (.node (nU 0) (.node (nU 0) (.node (nU 0) (.node (nU 15) (.node (nU 7) (lA (nU 0) 14) (fA 15)) (lA (nU
  0) 15)) (.node (nU 0) (.node (nU 2304) (lA (nU 0) 14) (fA 15)) (lA (nU 0) 15))) (.node (nU 0) (.node (nU 52) (.node (nU 3) (lA (nU 0) 14) (fA 15)) (lA (nU 0) 15)) (.node (nU 0)
  (.node (nU 0) (lA (nU 0) 14) (fA 15)) (lA (nU 0) 15)))) (.node (nU 0) (.node (nU 0) (.node (nU 50) (.node (nU 1088) (lA (nU 0) 14) (fA 15)) (lA (nU 0) 15)) (.node (nU 0) (.node (nU
  0) (lA (nU 0) 14) (fA 15)) (lA (nU 0) 15))) (.node (nU 0) (.node (nU 0) (.node (nU 0) (lA (nU 0) 14) (fA 15)) (lA (nU 0) 15)) (.node (nU 0) (.node (nU 0) (lA (nU 0) 14) (fA 15))
  (lA (nU 0) 15))))) (.node (nU 0) (.node (nU 0) (.node (nU 0) (.node (nU 49) (.node (nU 0) (lA (nU 0) 14) (fA 15)) (lA (nU 0) 15)) (.node (nU 0) (.node (nU 0) (lA (nU 0) 14) (fA
  15)) (lA (nU 0) 15))) (.node (nU 0) (.node (nU 0) (.node (nU 1216) (lA (nU 0) 14) (fA 15)) (lA (nU 0) 15)) (.node (nU 0) (.node (nU 0) (lA (nU 0) 14) (fA 15)) (lA (nU 0) 15))))
  (.node (nU 0) (.node (nU 0) (.node (nU 51) (.node (nU 0) (lA (nU 0) 14) (fA 15)) (lA (nU 0) 15)) (.node (nU 0) (.node (nU 0) (lA (nU 0) 14) (fA 15)) (lA (nU 0) 15))) (.node (nU 0)
  (.node (nU 0) (.node (nU 0) (lA (nU 0) 14) (fA 15)) (lA (nU 0) 15)) (.node (nU 0) (.node (nU 0) (lA (nU 0) 14) (fA 15)) (lA (nU 0) 15)))))) (.node (nU 0) (.node (nU 0) (.node (nU
  0) (.node (nU 0) (.node (nU 0) (.node (nU 0) (lA (nU 0) 14) (fA 15)) (lA (nU 0) 15)) (.node (nU 0) (.node (nU 0) (lA (nU 0) 14) (fA 15)) (lA (nU 0) 15))) (.node (nU 0) (.node (nU
  0) (.node (nU 0) (lA (nU 0) 14) (fA 15)) (lA (nU 0) 15)) (.node (nU 0) (.node (nU 0) (lA (nU 0) 14) (fA 15)) (lA (nU 0) 15)))) (.node (nU 0) (.node (nU 0) (.node (nU 0) (.node (nU
  0) (lA (nU 0) 14) (fA 15)) (lA (nU 0) 15)) (.node (nU 0) (.node (nU 0) (lA (nU 0) 14) (fA 15)) (lA (nU 0) 15))) (.node (nU 0) (.node (nU 0) (.node (nU 0) (lA (nU 0) 14) (fA 15))
  (lA (nU 0) 15)) (.node (nU 0) (.node (nU 0) (lA (nU 0) 14) (fA 15)) (lA (nU 0) 15))))) (.node (nU 0) (.node (nU 0) (.node (nU 0) (.node (nU 0) (.node (nU 0) (lA (nU 0) 14) (fA 15))
  (lA (nU 0) 15)) (.node (nU 0) (.node (nU 0) (lA (nU 0) 14) (fA 15)) (lA (nU 0) 15))) (.node (nU 0) (.node (nU 0) (.node (nU 0) (lA (nU 0) 14) (fA 15)) (lA (nU 0) 15)) (.node (nU 0)
  (.node (nU 0) (lA (nU 0) 14) (fA 15)) (lA (nU 0) 15)))) (.node (nU 0) (.node (nU 0) (.node (nU 0) (.node (nU 0) (lA (nU 0) 14) (fA 15)) (lA (nU 0) 15)) (.node (nU 0) (.node (nU 0)
  (lA (nU 0) 14) (fA 15)) (lA (nU 0) 15))) (.node (nU 0) (.node (nU 0) (.node (nU 0) (lA (nU 0) 14) (fA 15)) (lA (nU 0) 15)) (.node (nU 0) (.node (nU 0) (lA (nU 0) 14) (fA 15)) (lA
  (nU 0) 15)))))))) (.node (nU 2112) (.node (nU 0) (.node (nU 0) (.node (nU 0) (.node (nU 0) (.node (nU 0) (.node (nU 1) (.node (nU 3) (lA (nU 0) 14) (fA 15)) (lA (nU 0) 15)) (.node
  (nU 0) (.node (nU 3) (lA (nU 0) 14) (fA 15)) (lA (nU 0) 15))) (.node (nU 0) (.node (nU 1) (.node (nU 5495893775785918464) (lA (nU 0) 14) (fA 15)) (lA (nU 0) 15)) (.node (nU 0)
  (.node (nU 0) (lA (nU 0) 14) (fA 15)) (lA (nU 0) 15)))) (.node (nU 0) (.node (nU 0) (.node (nU 1) (.node (nU 1) (lA (nU 0) 14) (fA 15)) (lA (nU 0) 15)) (.node (nU 0) (.node (nU 0)
  (lA (nU 0) 14) (fA 15)) (lA (nU 0) 15))) (.node (nU 0) (.node (nU 0) (.node (nU 0) (lA (nU 0) 14) (fA 15)) (lA (nU 0) 15)) (.node (nU 0) (.node (nU 0) (lA (nU 0) 14) (fA 15)) (lA
  (nU 0) 15))))) (.node (nU 0) (.node (nU 0) (.node (nU 0) (.node (nU 1) (.node (nU 5495893775785918464) (lA (nU 0) 14) (fA 15)) (lA (nU 0) 15)) (.node (nU 0) (.node (nU 0) (lA (nU
  0) 14) (fA 15)) (lA (nU 0) 15))) (.node (nU 0) (.node (nU 0) (.node (nU 3) (lA (nU 0) 14) (fA 15)) (lA (nU 0) 15)) (.node (nU 0) (.node (nU 0) (lA (nU 0) 14) (fA 15)) (lA (nU 0)
  15)))) (.node (nU 0) (.node (nU 0) (.node (nU 1) (.node (nU 0) (lA (nU 0) 14) (fA 15)) (lA (nU 0) 15)) (.node (nU 0) (.node (nU 0) (lA (nU 0) 14) (fA 15)) (lA (nU 0) 15))) (.node
  (nU 0) (.node (nU 0) (.node (nU 5495893775785918465) (lA (nU 0) 14) (fA 15)) (lA (nU 0) 15)) (.node (nU 0) (.node (nU 0) (lA (nU 0) 14) (fA 15)) (lA (nU 0) 15)))))) (.node (nU 0)
  (.node (nU 0) (.node (nU 0) (.node (nU 0) (.node (nU 0) (.node (nU 0) (lA (nU 0) 14) (fA 15)) (lA (nU 0) 15)) (.node (nU 0) (.node (nU 0) (lA (nU 0) 14) (fA 15)) (lA (nU 0) 15)))
  (.node (nU 0) (.node (nU 0) (.node (nU 2304) (lA (nU 0) 14) (fA 15)) (lA (nU 0) 15)) (.node (nU 0) (.node (nU 0) (lA (nU 0) 14) (fA 15)) (lA (nU 0) 15)))) (.node (nU 0) (.node (nU
  0) (.node (nU 0) (.node (nU 0) (lA (nU 0) 14) (fA 15)) (lA (nU 0) 15)) (.node (nU 0) (.node (nU 0) (lA (nU 0) 14) (fA 15)) (lA (nU 0) 15))) (.node (nU 0) (.node (nU 0) (.node (nU
  0) (lA (nU 0) 14) (fA 15)) (lA (nU 0) 15)) (.node (nU 0) (.node (nU 0) (lA (nU 0) 14) (fA 15)) (lA (nU 0) 15))))) (.node (nU 0) (.node (nU 0) (.node (nU 0) (.node (nU 0) (.node (nU
  2112) (lA (nU 0) 14) (fA 15)) (lA (nU 0) 15)) (.node (nU 0) (.node (nU 0) (lA (nU 0) 14) (fA 15)) (lA (nU 0) 15))) (.node (nU 0) (.node (nU 0) (.node (nU 0) (lA (nU 0) 14) (fA 15))
  (lA (nU 0) 15)) (.node (nU 0) (.node (nU 0) (lA (nU 0) 14) (fA 15)) (lA (nU 0) 15)))) (.node (nU 0) (.node (nU 0) (.node (nU 0) (.node (nU 0) (lA (nU 0) 14) (fA 15)) (lA (nU 0)
  15)) (.node (nU 0) (.node (nU 0) (lA (nU 0) 14) (fA 15)) (lA (nU 0) 15))) (.node (nU 0) (.node (nU 0) (.node (nU 2112) (lA (nU 0) 14) (fA 15)) (lA (nU 0) 15)) (.node (nU 0) (.node
  (nU 0) (lA (nU 0) 14) (fA 15)) (lA (nU 0) 15))))))) (.node (nU 0) (.node (nU 0) (.node (nU 0) (.node (nU 0) (.node (nU 0) (.node (nU 0) (.node (nU 0) (lA (nU 0) 14) (fA 15)) (lA
  (nU 0) 15)) (.node (nU 0) (.node (nU 0) (lA (nU 0) 14) (fA 15)) (lA (nU 0) 15))) (.node (nU 0) (.node (nU 0) (.node (nU 0) (lA (nU 0) 14) (fA 15)) (lA (nU 0) 15)) (.node (nU 0)
  (.node (nU 0) (lA (nU 0) 14) (fA 15)) (lA (nU 0) 15)))) (.node (nU 0) (.node (nU 0) (.node (nU 0) (.node (nU 2) (lA (nU 0) 14) (fA 15)) (lA (nU 0) 15)) (.node (nU 0) (.node (nU 0)
  (lA (nU 0) 14) (fA 15)) (lA (nU 0) 15))) (.node (nU 0) (.node (nU 0) (.node (nU 0) (lA (nU 0) 14) (fA 15)) (lA (nU 0) 15)) (.node (nU 0) (.node (nU 0) (lA (nU 0) 14) (fA 15)) (lA
  (nU 0) 15))))) (.node (nU 0) (.node (nU 0) (.node (nU 0) (.node (nU 0) (.node (nU 2304) (lA (nU 0) 14) (fA 15)) (lA (nU 0) 15)) (.node (nU 0) (.node (nU 0) (lA (nU 0) 14) (fA 15))
  (lA (nU 0) 15))) (.node (nU 0) (.node (nU 0) (.node (nU 4) (lA (nU 0) 14) (fA 15)) (lA (nU 0) 15)) (.node (nU 0) (.node (nU 0) (lA (nU 0) 14) (fA 15)) (lA (nU 0) 15)))) (.node (nU
  0) (.node (nU 0) (.node (nU 0) (.node (nU 0) (lA (nU 0) 14) (fA 15)) (lA (nU 0) 15)) (.node (nU 0) (.node (nU 0) (lA (nU 0) 14) (fA 15)) (lA (nU 0) 15))) (.node (nU 0) (.node (nU
  0) (.node (nU 0) (lA (nU 0) 14) (fA 15)) (lA (nU 0) 15)) (.node (nU 0) (.node (nU 0) (lA (nU 0) 14) (fA 15)) (lA (nU 0) 15)))))) (.node (nU 0) (.node (nU 0) (.node (nU 0) (.node
  (nU 0) (.node (nU 0) (.node (nU 0) (lA (nU 0) 14) (fA 15)) (lA (nU 0) 15)) (.node (nU 0) (.node (nU 0) (lA (nU 0) 14) (fA 15)) (lA (nU 0) 15))) (.node (nU 0) (.node (nU 0) (.node
  (nU 0) (lA (nU 0) 14) (fA 15)) (lA (nU 0) 15)) (.node (nU 0) (.node (nU 0) (lA (nU 0) 14) (fA 15)) (lA (nU 0) 15)))) (.node (nU 0) (.node (nU 0) (.node (nU 0) (.node (nU 0) (lA (nU
  0) 14) (fA 15)) (lA (nU 0) 15)) (.node (nU 0) (.node (nU 0) (lA (nU 0) 14) (fA 15)) (lA (nU 0) 15))) (.node (nU 0) (.node (nU 0) (.node (nU 0) (lA (nU 0) 14) (fA 15)) (lA (nU 0)
  15)) (.node (nU 0) (.node (nU 0) (lA (nU 0) 14) (fA 15)) (lA (nU 0) 15))))) (.node (nU 0) (.node (nU 0) (.node (nU 0) (.node (nU 0) (.node (nU 0) (lA (nU 0) 14) (fA 15)) (lA (nU 0)
  15)) (.node (nU 0) (.node (nU 0) (lA (nU 0) 14) (fA 15)) (lA (nU 0) 15))) (.node (nU 0) (.node (nU 0) (.node (nU 0) (lA (nU 0) 14) (fA 15)) (lA (nU 0) 15)) (.node (nU 0) (.node (nU
  0) (lA (nU 0) 14) (fA 15)) (lA (nU 0) 15)))) (.node (nU 0) (.node (nU 0) (.node (nU 0) (.node (nU 0) (lA (nU 0) 14) (fA 15)) (lA (nU 0) 15)) (.node (nU 0) (.node (nU 0) (lA (nU 0)
  14) (fA 15)) (lA (nU 0) 15))) (.node (nU 0) (.node (nU 0) (.node (nU 0) (lA (nU 0) 14) (fA 15)) (lA (nU 0) 15)) (.node (nU 0) (.node (nU 0) (lA (nU 0) 14) (fA 15)) (lA (nU 0)
  15))))))))) false false) 13) (fD 14))) (fD 16)) (fD 17))))) (.node .dead (fD 20) (.node .dead (.node .dead (fD 18) (.node .dead (.node .dead (.node .dead (.node .dead (fD 14) (lD
  (.cells 37 16 16 (.node (.ptr 1578 0) (.node (nI 0) (.node (nI 1) (.node .nil (lA (nI 0) 19) (fA 20)) (lA (.ifc 215 (.ptr 1904 0)) 20)) (.node (nU 2304) (lA (nU 2112) 20) (lA
  (.bool false) 20))) (.node (.sl 1581 0 0 0 (.k 1)) (.node (nU 3) (lA .nil 20) (lA (.fn (.func 132) [] [(.ptr 1905 0), (.ptr 1906 0)]) 20)) (.node (.ptr 1583 0) (lA (nU 2496) 20)
  (lA (.bool false) 20)))) true false) 13)) (fD 15)) (fD 16)) (fD 17))) (.node .dead (fD 18) (.node .dead (.node .dead (.node .dead (fD 15) (.node .dead (lD (.map [⟨(nU 1088), (nI
  2), 0⟩, ⟨(nU 1152), (nI 2), 1⟩, ⟨(nU 1216), (nI 2), 2⟩, ⟨(nU 1280), (nI 2), 3⟩, ⟨(nU 2112), (nI 2), 4⟩, ⟨(nU 2304), (nI 2), 5⟩, ⟨(nU 2496), (nI 2), 6⟩] 7) 13) (fD 14))) (fD 16))
  (fD 17)))))))), 1907⟩,
  [.blk 1, .code (codeAt Tryz.f11 [1, 1, 1, 1, 0, 1, 0, 0, 1, 1]), .lp (codeAt Tryz.f11 [1, 1, 1, 1, 0, 1, 0, 0]), .blk 0, .code (codeAt Tryz.f11 [1, 1, 1,
  1, 1])]⟩
set_option maxRecDepth 1000000 in
theorem part6 : cutR [0, 1, 2, 3, 52, 53, 1338, 1340, 1341, 1342, 1343, 1345, 1346, 1347, 1348, 1464, 1533, 1576, 1577, 1578, 1579, 1581, 1582, 1583, 1599, 1903, 1904, 1905, 1906] (iterN (stepF ctx) 12000 s5) = .inl s6 := by kernel_rfl
end Go.Proofs.YtelipbpnplcofaaGreat.parentNil
