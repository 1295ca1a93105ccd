/-
  PROVED HERE: parts of the run of the evaluator from the call of ParentNil, by the kernel.
  Conditions: none.
-/
import Derived.KernelRfl
import Derived.Test.YtelipbpnplcofaaGreatParentNilRun2
namespace Go.Proofs.YtelipbpnplcofaaGreat.parentNil
open Go.Lev
/-- where the run stands at the end of part 3 -/
noncomputable def s3 : St :=
  ⟨⟨45, 98, [⟨(.coll 1466), []⟩], .normal, none,
  [⟨13, 37, [], .normal, none, .run, (.node (.sl 18 0 0 5120 (.k 5120)) (.node (nI 1) (.node undefV (.node undefV (lU (nI 0) 19) (fU
  20)) (lU (.tup [(.ptr 53 0), (nI 0)]) 20)) (.node (.ptr 53 0) (.node undefV (lU (.sl 18 0 0 5120 (.k 5120)) 19) (fU 20)) (lU (.tup [(.ptr 53 0), (nI 0)]) 20))) (.node undefV (.node
  .nil (fU 21) (lU (.sl 18 0 0 5120 (.k 5120)) 20)) (.node (nI 0) (fU 21) (lU (.ptr 53 0) 20)))), [.reg (opsAt Tryz.f13 [1, 1, 0]) ((opsAt Tryz.f13 [1, 1, 0]).toList.drop 1), .code
  (codeAt Tryz.f13 [1, 1, 1])]⟩,
    ⟨37, 70, [], .normal, none, .run, (.node (.agg [(nI 4), (.sl 3 0 0 4 (.k 4)), (nI 2), (nI 9), (nI 0), (nI 0)]) (.node (nI 1) (.node undefV (.node
  (nI 0) (.node (.bool false) (lU (.sl 49 0 0 1 (.u 49 0)) 18) (lU (nI 0) 18)) (.node (.sl 49 0 0 1 (.u 49 0)) (lU (.ptr 4 5) 18) (fU 19))) (.node (.ptr 4 0) (.node (nU 0) (lU (.sl
  37 0 0 2 (.u 37 0)) 18) (lU (.ptr 19 0) 18)) (.node (nI 0) (lU (nI 2) 18) (fU 19)))) (.node (.ptr 5 0) (.node (nI 1) (.node (.ptr 4 4) (lU (.ptr 49 0) 18) (lU (.ptr 19 0) 18))
  (.node (nU 1) (lU (nU 0) 18) (fU 19))) (.node (.ptr 19 0) (.node (.ptr 19 0) (lU (.bool false) 18) (lU (nI 1) 18)) (.node (.ptr 19 0) (lU (nU 1) 18) (fU 19))))) (.node (.ptr 4 0)
  (.node .nil (.node (.sl 37 0 0 2 (.u 37 0)) (.node undefV (lU (nI 0) 18) (lU (nI 1) 18)) (.node (nI 1) (lU (nI 0) 18) (fU 19))) (.node (.agg [(nI 4), (.sl 3 0 0 4 (.k 4)), (nI 2),
  (nI 9)]) (.node (.ptr 19 0) (lU (nI 2) 18) (lU (.sl 18 0 0 5120 (.k 5120)) 18)) (.node (.ptr 19 0) (lU (nI 1) 18) (fU 19)))) (.node (.ptr 19 0) (.node undefV (.node (nI 0) (lU (.sl
  37 0 0 2 (.u 37 0)) 18) (lU (.ptr 19 0) 18)) (.node (nU 0) (lU (.sl 37 0 0 2 (.u 37 0)) 18) (fU 19))) (.node (.ptr 19 0) (lU (.ptr 19 7) 19) (.node (.ptr 19 7) (lU (nU 0) 18) (fU
  19)))))), [.reg (opsAt Tryz.f37 [1, 1, 1, 1, 1, 1, 1, 0]) ((opsAt Tryz.f37 [1, 1, 1, 1, 1, 1, 1, 0]).toList.drop 5), .code (codeAt Tryz.f37 [1, 1, 1, 1, 1, 1, 1, 1])]⟩,
    ⟨11,
  59, [], .normal, none, .run, (.node (.bool false) (.node undefV (.node undefV (fU 21) (lU (.agg [(nI 4), (.sl 3 0 0 4 (.k 4)), (nI 2), (nI 9), (nI 0), (nI 0)]) 20)) (.node undefV
  (lU (.sl 3 0 0 4 (.k 4)) 20) (fU 21))) (.node undefV (fU 22) (.node undefV (lU (.agg [(nI 4), (.sl 3 0 0 4 (.k 4)), (nI 2), (nI 9)]) 20) (fU 21)))), [.reg (opsAt Tryz.f11 [1, 0])
  ((opsAt Tryz.f11 [1, 0]).toList.drop 3), .code (codeAt Tryz.f11 [1, 1])]⟩,
    ⟨3, 54, [], .normal, none, .run, (.node (.bool false) (.node .nil (.node (.bool true) (.node (.bool
  true) (.node (.tup [(.bool true), (nI 1)]) (lU (.bool true) 18) (lU (.bool true) 18)) (.node (.bool true) (lU (nI 1) 18) (fU 19))) (.node (.tup [(.bool true), (nI 1)]) (.node (.ptr
  2 0) (lU (.bool true) 18) (lU (.bool true) 18)) (.node (.bool true) (lU .nil 18) (fU 19)))) (.node (.bool true) (.node (.tup [(.bool true), (nI 1)]) (.node (nI 1) (lU (.bool true)
  18) (lU (.bool true) 18)) (.node (nI 1) (lU (.bool true) 18) (fU 19))) (.node (nI 1) (.node (.bool true) (lU (.bool true) 18) (fU 19)) (.node (.bool true) (lU (.bool true) 18) (fU
  19))))) (.node (.ptr 0 0) (.node (nI 1) (.node (nI 1) (.node (.bool true) (lU (nI 1) 18) (lU (.bool false) 18)) (.node (.bool true) (lU (.bool true) 18) (fU 19))) (.node (.bool
  true) (.node (.tup [(.bool true), (nI 1)]) (lU (.bool true) 18) (fU 19)) (.node (.bool true) (lU (.bool false) 18) (fU 19)))) (.node (nI 1) (.node .nil (.node (.tup [(.bool true),
  (nI 1)]) (lU (.bool true) 18) (lU (.bool true) 18)) (.node (.bool true) (lU (.bool true) 18) (fU 19))) (.node (.tup [(.bool true), (nI 1)]) (.node (nI 1) (lU (.bool true) 18) (fU
  19)) (.node (.bool true) (lU (.bool true) 18) (fU 19)))))), [.reg (opsAt Tryz.f3 [1, 1, 1, 1, 1, 1, 0]) ((opsAt Tryz.f3 [1, 1, 1, 1, 1, 1, 0]).toList.drop 29), .code (codeAt
  Tryz.f3 [1, 1, 1, 1, 1, 1, 1])]⟩]⟩,
  .run,
  (.node (.sl 18 0 0 5120 (.k 5120)) (.node undefV (.node (nI 0) (.node (nI 3) (.node (nI 5120) (.node (nI 3) (lU (.ptr 1343 0) 17) (fU
  18)) (lU (nU 1) 18)) (.node (nI 4) (.node (nI 2) (lU (nI 1) 17) (fU 18)) (lU (nU 15) 18))) (.node undefV (.node (.bool true) (.node (.ptr 1343 0) (lU (nU 15) 17) (fU 18)) (lU (nU
  15) 18)) (.node (.agg [(nI 5120), (.sl 1341 0 0 5 (.k 5)), .nil, .nil, .nil, .nil, (.map 1342)]) (.node (nI 2) (lU (nU 15) 17) (fU 18)) (lU (.bool true) 18)))) (.node (.bool true)
  (.node (.ptr 1350 0) (.node (nI 4) (.node (nI 3) (lU (.sl 1341 0 0 5 (.k 5)) 17) (fU 18)) (lU (nI 1) 18)) (.node (.sl 1341 0 0 5 (.k 5)) (.node (.bool true) (lU (nI 1) 17) (fU 18))
  (lU (nI 1) 18))) (.node (.tup [(nI 4), (.bool true)]) (.node (.sl 18 0 0 5120 (.k 5120)) (.node (.ptr 1343 5) (lU (.ptr 1341 3) 17) (fU 18)) (lU (.bool false) 18)) (.node (nI 4)
  (lU (nI 1) 18) (lU (.bool false) 18))))) (.node .nil (.node (nI 4) (.node (.ptr 1488 0) (.node (.tup [(nI 4), (.bool true)]) (.node (.ptr 1343 0) (lU (.ptr 1343 1) 17) (lU (nI 1)
  17)) (lU (.sl 18 0 0 5120 (.k 5120)) 18)) (.node (nI 5) (.node (nI 4) (lU (nU 1) 17) (fU 18)) (lU (nU 1) 18))) (.node undefV (.node (.bool false) (.node (.ptr 1343 2) (lU (.ptr
  1341 2) 17) (fU 18)) (lU (nU 1) 18)) (.node (.ptr 1343 0) (.node (.sl 18 0 0 5120 (.k 5120)) (lU (.fn (.func 151) [] [(.ptr 1465 0)]) 17) (fU 18)) (lU (.bool false) 18)))) (.node
  (.ptr 1344 0) (.node (nU 15) (.node (.bool true) (.node (.ptr 1348 0) (lU (nI 1) 17) (fU 18)) (lU (nU 1032) 18)) (.node (.map 1342) (lU (nI 1) 18) (lU (nI 15) 18))) (.node (.sl 18
  0 0 5120 (.k 5120)) (.node (nI 5120) (.node (nI 4) (lU (.ptr 1343 0) 17) (fU 18)) (lU (.bool false) 18)) (.node (.bool false) (lU (nU 1024) 18) (lU (.ptr 1343 0) 18)))))),
 
  ⟨(.node (.cells 37 16 16 (.node .nil (.node (nI 0) (.node (nI 0) (.node .nil (lA (nI 0) 19) (fA 20)) (lA .nilif 20)) (.node (nU 0) (lA (nU 0) 20) (lA (.bool false) 20))) (.node
  .nilsl (.node (nU 0) (lA .nil 20) (lA .nilfn 20)) (.node .nil (lA (nU 0) 20) (lA (.bool false) 20)))) true false) (.node (.cells 28 3 3 (.node (nI 1) (lA (nU 1) 22) (lA (nU 1088)
  22)) true false) (.node (.cells 25 1 4 (.node (nU 1) (.node (nU 2) (lA (nU 4) 21) (fA 22)) (lA (nU 3) 22)) true false) (.node .dead (.node .dead (.node .dead (.node .dead (fD 17)
  (.node .dead (.node .dead (fD 15) (.node .dead (lD (.cells 198 7 7 (.node (nI 5120) (.node (.sl 1341 0 0 5 (.k 5)) (lA (.ptr 1346 0) 21) (lA (.ptr 1348 0) 21)) (.node (.ptr 1345 0)
  (lA (.ptr 1347 0) 21) (lA (.map 1342) 21))) true false) 13) (fD 14))) (fD 16))) (fD 18)) (fD 19)) (fD 20)) (.node .dead (.node (.cells 50 8 8 (.node (.sl 18 0 0 5120 (.k 5120))
  (.node (nI 4) (.node (nI 1) (lA (.sl 49 0 0 1 (.u 49 0)) 20) (fA 21)) (lA (nI 2) 21)) (.node (nI 2) (lA (nI 4) 21) (lA (nI 2) 21))) true false) (.node .dead (.node .dead (fD 17)
  (.node .dead (.node .dead (fD 15) (.node .dead (lD (.cells 271 1 1 (lA .nilsl 23) true false) 13) (fD 14))) (fD 16))) (fD 18)) (fD 19)) (fD 20))) (.node (.cells 99 3 3 (.node (nI
  0) (lA (nU 0) 22) (lA (nU 0) 22)) true false) (.node .dead (.node .dead (.node .dead (.node .dead (fD 17) (.node .dead (.node .dead (fD 15) (.node .dead (lD (.cells 271 1 1 (lA
  .nilsl 23) true false) 13) (fD 14))) (fD 16))) (fD 18)) (lD (.cells 170 1 1 (lA (.sl 37 0 0 2 (.u 37 0)) 23) false false) 18)) (.node .dead (fD 19) (.node .dead (fD 18) (.node
  .dead (.node .dead (fD 16) (.node .dead (fD 15) (.node .dead (lD (.cells 25 1 1 (lA (nU 15) 23) true false) 13) (fD 14)))) (fD 17))))) (.node .dead (.node .dead (lD (.cells 176 22
  44 (.node (nU 2112) (.node (nI 0) (.node (nU 2304) (.node (nU 2) (.node (nU 1152) (lA (nU 0) 18) (fA 19)) (.node (nI 0) (lA (nU 0) 18) (fA 19))) (.node (nU 0) (.node (nU 0) (lA (nU
  0) 18) (fA 19)) (.node (nU 2304) (lA (nU 0) 18) (fA 19)))) (.node (nU 2112) (.node (nU 0) (.node (nU 0) (lA (nU 0) 18) (fA 19)) (.node (nU 0) (lA (nU 0) 18) (fA 19))) (.node (nU 0)
  (.node (nU 0) (lA (nU 1280) 18) (fA 19)) (lA (nU 4) 19)))) (.node (nU 0) (.node (nU 0) (.node (nU 0) (.node (nU 0) (lA (nU 0) 18) (fA 19)) (.node (nU 3) (lA (nU 0) 18) (fA 19)))
  (.node (nU 0) (.node (nU 0) (lA (nU 1216) 18) (fA 19)) (lA (nU 3) 19))) (.node (nU 1) (.node (nU 0) (.node (nU 0) (lA (nU 0) 18) (fA 19)) (.node (nU 0) (lA (nU 0) 18) (fA 19)))
  (.node (nU 1088) (.node (nU 2304) (lA (nU 0) 18) (fA 19)) (lA (nU 0) 19))))) false false) 18) (lD (.cells 128 7 7 (.node (.sl 1340 0 0 640 (.u 1340 0)) (.node (.sl 1338 0 0 640 (.u
  1338 0)) (lA (nU 0) 21) (lA (nU 0) 21)) (.node (.map 52) (lA (nU 0) 21) (lA (nU 0) 21))) true false) 18)) (.node .dead (fD 19) (.node .dead (fD 18) (.node .dead (.node .dead (.node
  .dead (fD 15) (.node .dead (lD (.cells 205 2 10 (.node (nI 0) (.node (nU 0) (.node (nU 15) (lA (nU 0) 20) (fA 21)) (.node (nU 0) (lA (nU 0) 20) (fA 21))) (.node (nI 1) (.node (nI
  0) (lA (nI 0) 20) (fA 21)) (lA (nI 0) 21))) true false) 13) (fD 14))) (fD 16)) (fD 17))))))) (.node (.cells 37 16 16 (.node .nil (.node (nI 0) (.node (nI 0) (.node .nil (lA (nI 1)
  19) (fA 20)) (lA .nilif 20)) (.node (nU 0) (lA (nU 0) 20) (lA (.bool false) 20))) (.node (.sl 1 0 0 1 (.k 1)) (.node (nU 0) (lA .nil 20) (lA (.fn (.func 36) [(.ptr 2 0)] []) 20))
  (.node .nil (lA (nU 0) 20) (lA (.bool true) 20)))) true false) (.node (.cells 103 6 6 (.node (nI 4) (.node (.sl 3 0 0 4 (.k 4)) (lA (nI 9) 21) (lA (nI 0) 21)) (.node (nI 2) (lA (nI
  0) 21) (fA 22))) true false) (.node .dead (.node .dead (.node .dead (.node .dead (fD 17) (.node .dead (.node .dead (fD 15) (.node .dead (lD (.cells 118 1 1 (lA (.ptr 1343 0) 23)
  true false) 13) (fD 14))) (fD 16))) (fD 18)) (.node .dead (.node .dead (fD 17) (.node .dead (fD 16) (.node .dead (fD 15) (.node .dead (lD (.cells 3 1 1 (lA (nI 2) 23) true false)
  13) (fD 14))))) (fD 18))) (.node .dead (fD 19) (.node .dead (fD 18) (.node .dead (.node .dead (fD 16) (.node .dead (fD 15) (.node .dead (lD (.cells 26 1 15 (.node (nU 1344) (.node
  (nU 1536) (.node (nU 1600) (lA (nU 1984) 20) (lA (nU 1280) 20)) (.node (nU 1792) (lA (nU 1856) 20) (lA (nU 1152) 20))) (.node (nU 1408) (.node (nU 1664) (lA (nU 1920) 20) (lA (nU
  1216) 20)) (.node (nU 1472) (lA (nU 1728) 20) (lA (nU 1088) 20)))) false false) 13) (fD 14)))) (fD 17))))) (.node .dead (.node .dead (.node .dead (.node .dead (fD 17) (.node .dead
  (.node .dead (fD 15) (.node .dead (lD (.cells 271 1 1 (lA .nilsl 23) true false) 13) (fD 14))) (fD 16))) (fD 18)) (lD (.map [] 0) 18)) (.node .dead (fD 19) (.node .dead (fD 18)
  (.node .dead (.node .dead (.node .dead (fD 15) (.node .dead (lD (.cells 25 1 640 (.node (nU 5929342154728227142) (.node (nU 5120) (.node (nU 18446744073709546495) (.node (nU 0)
  (.node (nU 0) (.node (nU 0) (.node (nU 0) (.node (nU 0) (.node (nU 0) (lA (nU 0) 14) (fA 15)) (.node (nU 0) (lA (nU 0) 14) (fA 15))) (.node (nU 0) (.node (nU 0) (lA (nU 0) 14) (fA
  15)) (lA (nU 0) 15))) (.node (nU 0) (.node (nU 0) (.node (nU 0) (lA (nU 0) 14) (fA 15)) (lA (nU 0) 15)) (.node (nU 0) (.node (nU 0) (lA (nU 0) 14) (fA 15)) (lA (nU 0) 15)))) (.node
  (nU 0) (.node (nU 0) (.node (nU 0) (.node (nU 0) (lA (nU 0) 14) (fA 15)) (lA (nU 0) 15)) (.node (nU 0) (.node (nU 0) (lA (nU 0) 14) (fA 15)) (lA (nU 0) 15))) (.node (nU 0) (.node
  (nU 0) (.node (nU 0) (lA (nU 0) 14) (fA 15)) (lA (nU 0) 15)) (.node (nU 0) (.node (nU 0) (lA (nU 0) 14) (fA 15)) (lA (nU 0) 15))))) (.node (nU 0) (.node (nU 0) (.node (nU 0) (.node
  (nU 0) (.node (nU 0) (lA (nU 0) 14) (fA 15)) (lA (nU 0) 15)) (.node (nU 0) (.node (nU 0) (lA (nU 0) 14) (fA 15)) (lA (nU 0) 15))) (.node (nU 0) (.node (nU 0) (.node (nU 0) (lA (nU
  0) 14) (fA 15)) (lA (nU 0) 15)) (.node (nU 0) (.node (nU 0) (lA (nU 0) 14) (fA 15)) (lA (nU 0) 15)))) (.node (nU 0) (.node (nU 0) (.node (nU 0) (.node (nU 0) (lA (nU 0) 14) (fA
  15)) (lA (nU 0) 15)) (.node (nU 0) (.node (nU 0) (lA (nU 0) 14) (fA 15)) (lA (nU 0) 15))) (.node (nU 0) (.node (nU 0) (.node (nU 0) (lA (nU 0) 14) (fA 15)) (lA (nU 0) 15)) (.node
  (nU 0) (.node (nU 0) (lA (nU 0) 14) (fA 15)) (lA (nU 0) 15)))))) (.node (nU 0) (.node (nU 0) (.node (nU 0) (.node (nU 0) (.node (nU 0) (.node (nU 0) (lA (nU 0) 14) (fA 15)) (lA (nU
  0) 15)) (.node (nU 0) (.node (nU 0) (lA (nU 0) 14) (fA 15)) (lA (nU 0) 15))) (.node (nU 0) (.node (nU 0) (.node (nU 0) (lA (nU 0) 14) (fA 15)) (lA (nU 0) 15)) (.node (nU 0) (.node
  (nU 0) (lA (nU 0) 14) (fA 15)) (lA (nU 0) 15)))) (.node (nU 0) (.node (nU 0) (.node (nU 0) (.node (nU 1152) (lA (nU 0) 14) (fA 15)) (lA (nU 0) 15)) (.node (nU 0) (.node (nU 0) (lA
  (nU 0) 14) (fA 15)) (lA (nU 0) 15))) (.node (nU 0) (.node (nU 0) (.node (nU 0) (lA (nU 0) 14) (fA 15)) (lA (nU 0) 15)) (.node (nU 0) (.node (nU 0) (lA (nU 0) 14) (fA 15)) (lA (nU
  0) 15))))) (.node (nU 0) (.node (nU 0) (.node (nU 0) (.node (nU 0) (.node (nU 0) (lA (nU 0) 14) (fA 15)) (lA (nU 0) 15)) (.node (nU 0) (.node (nU 0) (lA (nU 0) 14) (fA 15)) (lA (nU
  0) 15))) (.node (nU 0) (.node (nU 0) (.node (nU 1280) (lA (nU 0) 14) (fA 15)) (lA (nU 0) 15)) (.node (nU 0) (.node (nU 0) (lA (nU 0) 14) (fA 15)) (lA (nU 0) 15)))) (.node (nU 0)
  (.node (nU 0) (.node (nU 0) (.node (nU 0) (lA (nU 0) 14) (fA 15)) (lA (nU 0) 15)) (.node (nU 0) (.node (nU 0) (lA (nU 0) 14) (fA 15)) (lA (nU 0) 15))) (.node (nU 0) (.node (nU 0)
  (.node (nU 0) (lA (nU 0) 14) (fA 15)) (lA (nU 0) 15)) (.node (nU 0) (.node (nU 0) (lA (nU 0) 14) (fA 15)) (lA (nU 0) 15))))))) (.node (nU 0) (.node (nU 0) (.node (nU 0) (.node (nU
  0) (.node (nU 0) (.node (nU 15) (.node (nU 3) (lA (nU 0) 14) (fA 15)) (lA (nU 0) 15)) (.node (nU 0) (.node (nU 0) (lA (nU 0) 14) (fA 15)) (lA (nU 0) 15))) (.node (nU 0) (.node (nU
  52) (.node (nU 3) (lA (nU 0) 14) (fA 15)) (lA (nU 0) 15)) (.node (nU 0) (.node (nU 0) (lA (nU 0) 14) (fA 15)) (lA (nU 0) 15)))) (.node (nU 0) (.node (nU 0) (.node (nU 50) (.node
  (nU 1088) (lA (nU 0) 14) (fA 15)) (lA (nU 0) 15)) (.node (nU 0) (.node (nU 0) (lA (nU 0) 14) (fA 15)) (lA (nU 0) 15))) (.node (nU 0) (.node (nU 0) (.node (nU 0) (lA (nU 0) 14) (fA
  15)) (lA (nU 0) 15)) (.node (nU 0) (.node (nU 0) (lA (nU 0) 14) (fA 15)) (lA (nU 0) 15))))) (.node (nU 0) (.node (nU 0) (.node (nU 0) (.node (nU 49) (.node (nU 0) (lA (nU 0) 14)
  (fA 15)) (lA (nU 0) 15)) (.node (nU 0) (.node (nU 0) (lA (nU 0) 14) (fA 15)) (lA (nU 0) 15))) (.node (nU 0) (.node (nU 0) (.node (nU 1216) (lA (nU 0) 14) (fA 15)) (lA (nU 0) 15))
  (.node (nU 0) (.node (nU 0) (lA (nU 0) 14) (fA 15)) (lA (nU 0) 15)))) (.node (nU 0) (.node (nU 0) (.node (nU 51) (.node (nU 0) (lA (nU 0) 14) (fA 15)) (lA (nU 0) 15)) (.node (nU 0)
  (.node (nU 0) (lA (nU 0) 14) (fA 15)) (lA (nU 0) 15))) (.node (nU 0) (.node (nU 0) (.node (nU 0) (lA (nU 0) 14) (fA 15)) (lA (nU 0) 15)) (.node (nU 0) (.node (nU 0) (lA (nU 0) 14)
  (fA 15)) (lA (nU 0) 15)))))) (.node (nU 0) (.node (nU 0) (.node (nU 0) (.node (nU 0) (.node (nU 0) (.node (nU 0) (lA (nU 0) 14) (fA 15)) (lA (nU 0) 15)) (.node (nU 0) (.node (nU 0)
  (lA (nU 0) 14) (fA 15)) (lA (nU 0) 15))) (.node (nU 0) (.node (nU 0) (.node (nU 0) (lA (nU 0) 14) (fA 15)) (lA (nU 0) 15)) (.node (nU 0) (.node (nU 0) (lA (nU 0) 14) (fA 15)) (lA
  (nU 0) 15)))) (.node (nU 0) (.node (nU 0) (.node (nU 0) (.node (nU 0) (lA (nU 0) 14) (fA 15)) (lA (nU 0) 15)) (.node (nU 0) (.node (nU 0) (lA (nU 0) 14) (fA 15)) (lA (nU 0) 15)))
  (.node (nU 0) (.node (nU 0) (.node (nU 0) (lA (nU 0) 14) (fA 15)) (lA (nU 0) 15)) (.node (nU 0) (.node (nU 0) (lA (nU 0) 14) (fA 15)) (lA (nU 0) 15))))) (.node (nU 0) (.node (nU 0)
  (.node (nU 0) (.node (nU 0) (.node (nU 0) (lA (nU 0) 14) (fA 15)) (lA (nU 0) 15)) (.node (nU 0) (.node (nU 0) (lA (nU 0) 14) (fA 15)) (lA (nU 0) 15))) (.node (nU 0) (.node (nU 0)
  (.node (nU 0) (lA (nU 0) 14) (fA 15)) (lA (nU 0) 15)) (.node (nU 0) (.node (nU 0) (lA (nU 0) 14) (fA 15)) (lA (nU 0) 15)))) (.node (nU 0) (.node (nU 0) (.node (nU 0) (.node (nU 0)
  (lA (nU 0) 14) (fA 15)) (lA (nU 0) 15)) (.node (nU 0) (.node (nU 0) (lA (nU 0) 14) (fA 15)) (lA (nU 0) 15))) (.node (nU 0) (.node (nU 0) (.node (nU 0) (lA (nU 0) 14) (fA 15)) (lA
  (nU 0) 15)) (.node (nU 0) (.node (nU 0) (lA (nU 0) 14) (fA 15)) (lA (nU 0) 15)))))))) (.node (nU 2112) (.node (nU 0) (.node (nU 0) (.node (nU 0) (.node (nU 0) (.node (nU 0) (.node
  (nU 1) (.node (nU 3) (lA (nU 0) 14) (fA 15)) (lA (nU 0) 15)) (.node (nU 0) (.node (nU 0) (lA (nU 0) 14) (fA 15)) (lA (nU 0) 15))) (.node (nU 0) (.node (nU 1) (.node (nU
  5495893775785918464) (lA (nU 0) 14) (fA 15)) (lA (nU 0) 15)) (.node (nU 0) (.node (nU 0) (lA (nU 0) 14) (fA 15)) (lA (nU 0) 15)))) (.node (nU 0) (.node (nU 0) (.node (nU 1) (.node
  (nU 1) (lA (nU 0) 14) (fA 15)) (lA (nU 0) 15)) (.node (nU 0) (.node (nU 0) (lA (nU 0) 14) (fA 15)) (lA (nU 0) 15))) (.node (nU 0) (.node (nU 0) (.node (nU 0) (lA (nU 0) 14) (fA
  15)) (lA (nU 0) 15)) (.node (nU 0) (.node (nU 0) (lA (nU 0) 14) (fA 15)) (lA (nU 0) 15))))) (.node (nU 0) (.node (nU 0) (.node (nU 0) (.node (nU 1) (.node (nU 5495893775785918464)
  (lA (nU 0) 14) (fA 15)) (lA (nU 0) 15)) (.node (nU 0) (.node (nU 0) (lA (nU 0) 14) (fA 15)) (lA (nU 0) 15))) (.node (nU 0) (.node (nU 0) (.node (nU 3) (lA (nU 0) 14) (fA 15)) (lA
  (nU 0) 15)) (.node (nU 0) (.node (nU 0) (lA (nU 0) 14) (fA 15)) (lA (nU 0) 15)))) (.node (nU 0) (.node (nU 0) (.node (nU 1) (.node (nU 0) (lA (nU 0) 14) (fA 15)) (lA (nU 0) 15))
  (.node (nU 0) (.node (nU 0) (lA (nU 0) 14) (fA 15)) (lA (nU 0) 15))) (.node (nU 0) (.node (nU 0) (.node (nU 0) (lA (nU 0) 14) (fA 15)) (lA (nU 0) 15)) (.node (nU 0) (.node (nU 0)
  (lA (nU 0) 14) (fA 15)) (lA (nU 0) 15)))))) (.node (nU 0) (.node (nU 0) (.node (nU 0) (.node (nU 0) (.node (nU 0) (.node (nU 0) (lA (nU 0) 14) (fA 15)) (lA (nU 0) 15)) (.node (nU
  0) (.node (nU 0) (lA (nU 0) 14) (fA 15)) (lA (nU 0) 15))) (.node (nU 0) (.node (nU 0) (.node (nU 2304) (lA (nU 0) 14) (fA 15)) (lA (nU 0) 15)) (.node (nU 0) (.node (nU 0) (lA (nU
  0) 14) (fA 15)) (lA (nU 0) 15)))) (.node (nU 0) (.node (nU 0) (.node (nU 0) (.node (nU 0) (lA (nU 0) 14) (fA 15)) (lA (nU 0) 15)) (.node (nU 0) (.node (nU 0) (lA (nU 0) 14) (fA
  15)) (lA (nU 0) 15))) (.node (nU 0) (.node (nU 0) (.node (nU 0) (lA (nU 0) 14) (fA 15)) (lA (nU 0) 15)) (.node (nU 0) (.node (nU 0) (lA (nU 0) 14) (fA 15)) (lA (nU 0) 15)))))
  (.node (nU 0) (.node (nU 0) (.node (nU 0) (.node (nU 0) (.node (nU 2112) (lA (nU 0) 14) (fA 15)) (lA (nU 0) 15)) (.node (nU 0) (.node (nU 0) (lA (nU 0) 14) (fA 15)) (lA (nU 0)
  15))) (.node (nU 0) (.node (nU 0) (.node (nU 0) (lA (nU 0) 14) (fA 15)) (lA (nU 0) 15)) (.node (nU 0) (.node (nU 0) (lA (nU 0) 14) (fA 15)) (lA (nU 0) 15)))) (.node (nU 0) (.node
  (nU 0) (.node (nU 0) (.node (nU 0) (lA (nU 0) 14) (fA 15)) (lA (nU 0) 15)) (.node (nU 0) (.node (nU 0) (lA (nU 0) 14) (fA 15)) (lA (nU 0) 15))) (.node (nU 0) (.node (nU 0) (.node
  (nU 0) (lA (nU 0) 14) (fA 15)) (lA (nU 0) 15)) (.node (nU 0) (.node (nU 0) (lA (nU 0) 14) (fA 15)) (lA (nU 0) 15))))))) (.node (nU 0) (.node (nU 0) (.node (nU 0) (.node (nU 0)
  (.node (nU 0) (.node (nU 0) (.node (nU 0) (lA (nU 0) 14) (fA 15)) (lA (nU 0) 15)) (.node (nU 0) (.node (nU 0) (lA (nU 0) 14) (fA 15)) (lA (nU 0) 15))) (.node (nU 0) (.node (nU 0)
  (.node (nU 0) (lA (nU 0) 14) (fA 15)) (lA (nU 0) 15)) (.node (nU 0) (.node (nU 0) (lA (nU 0) 14) (fA 15)) (lA (nU 0) 15)))) (.node (nU 0) (.node (nU 0) (.node (nU 0) (.node (nU 2)
  (lA (nU 0) 14) (fA 15)) (lA (nU 0) 15)) (.node (nU 0) (.node (nU 0) (lA (nU 0) 14) (fA 15)) (lA (nU 0) 15))) (.node (nU 0) (.node (nU 0) (.node (nU 0) (lA (nU 0) 14) (fA 15)) (lA
  (nU 0) 15)) (.node (nU 0) (.node (nU 0) (lA (nU 0) 14) (fA 15)) (lA (nU 0) 15))))) (.node (nU 0) (.node (nU 0) (.node (nU 0) (.node (nU 0) (.node (nU 2304) (lA (nU 0) 14) (fA 15))
  (lA (nU 0) 15)) (.node (nU 0) (.node (nU 0) (lA (nU 0) 14) (fA 15)) (lA (nU 0) 15))) (.node (nU 0) (.node (nU 0) (.node (nU 4) (lA (nU 0) 14) (fA 15)) (lA (nU 0) 15)) (.node (nU 0)
  (.node (nU 0) (lA (nU 0) 14) (fA 15)) (lA (nU 0) 15)))) (.node (nU 0) (.node (nU 0) (.node (nU 0) (.node (nU 0) (lA (nU 0) 14) (fA 15)) (lA (nU 0) 15)) (.node (nU 0) (.node (nU 0)
  (lA (nU 0) 14) (fA 15)) (lA (nU 0) 15))) (.node (nU 0) (.node (nU 0) (.node (nU 0) (lA (nU 0) 14) (fA 15)) (lA (nU 0) 15)) (.node (nU 0) (.node (nU 0) (lA (nU 0) 14) (fA 15)) (lA
  (nU 0) 15)))))) (.node (nU 0) (.node (nU 0) (.node (nU 0) (.node (nU 0) (.node (nU 0) (.node (nU 0) (lA (nU 0) 14) (fA 15)) (lA (nU 0) 15)) (.node (nU 0) (.node (nU 0) (lA (nU 0)
  14) (fA 15)) (lA (nU 0) 15))) (.node (nU 0) (.node (nU 0) (.node (nU 0) (lA (nU 0) 14) (fA 15)) (lA (nU 0) 15)) (.node (nU 0) (.node (nU 0) (lA (nU 0) 14) (fA 15)) (lA (nU 0)
  15)))) (.node (nU 0) (.node (nU 0) (.node (nU 0) (.node (nU 0) (lA (nU 0) 14) (fA 15)) (lA (nU 0) 15)) (.node (nU 0) (.node (nU 0) (lA (nU 0) 14) (fA 15)) (lA (nU 0) 15))) (.node
  (nU 0) (.node (nU 0) (.node (nU 0) (lA (nU 0) 14) (fA 15)) (lA (nU 0) 15)) (.node (nU 0) (.node (nU 0) (lA (nU 0) 14) (fA 15)) (lA (nU 0) 15))))) (.node (nU 0) (.node (nU 0) (.node
  (nU 0) (.node (nU 0) (.node (nU 0) (lA (nU 0) 14) (fA 15)) (lA (nU 0) 15)) (.node (nU 0) (.node (nU 0) (lA (nU 0) 14) (fA 15)) (lA (nU 0) 15))) (.node (nU 0) (.node (nU 0) (.node
  (nU 0) (lA (nU 0) 14) (fA 15)) (lA (nU 0) 15)) (.node (nU 0) (.node (nU 0) (lA (nU 0) 14) (fA 15)) (lA (nU 0) 15)))) (.node (nU 0) (.node (nU 0) (.node (nU 0) (.node (nU 0) (lA (nU
  0) 14) (fA 15)) (lA (nU 0) 15)) (.node (nU 0) (.node (nU 0) (lA (nU 0) 14) (fA 15)) (lA (nU 0) 15))) (.node (nU 0) (.node (nU 0) (.node (nU 0) (lA (nU 0) 14) (fA 15)) (lA (nU 0)
  15)) (.node (nU 0) (.node (nU 0) (lA (nU 0) 14) (fA 15)) (lA (nU 0) 15))))))))) false false) 13) (fD 14))) (fD 16)) (fD 17)))))) (.node .dead (.node .dead (.node (.cells 5 1 5120
  (.node (nB 70) (.node (nB 65) (.node (nB 84) (.node (nB 82) (.node (nB 0) (.node (nB 255) (.node (nB 0) (.node (nB 0) (.node (nB 0) (fB 15) (.node (nB 0) (lB (nB 0) 13) (fB 14)))
  (.node (nB 0) (.node (nB 0) (lB (nB 0) 13) (fB 14)) (.node (nB 0) (lB (nB 0) 13) (fB 14)))) (.node (nB 0) (.node (nB 0) (fB 15) (.node (nB 0) (lB (nB 0) 13) (fB 14))) (.node (nB 0)
  (.node (nB 0) (lB (nB 0) 13) (fB 14)) (.node (nB 0) (lB (nB 0) 13) (fB 14))))) (.node (nB 0) (.node (nB 0) (.node (nB 0) (fB 15) (.node (nB 0) (lB (nB 0) 13) (fB 14))) (.node (nB
  0) (.node (nB 0) (lB (nB 0) 13) (fB 14)) (.node (nB 0) (lB (nB 0) 13) (fB 14)))) (.node (nB 0) (.node (nB 0) (.node (nB 0) (lB (nB 0) 13) (fB 14)) (.node (nB 0) (lB (nB 0) 13) (fB
  14))) (.node (nB 0) (.node (nB 0) (lB (nB 0) 13) (fB 14)) (fB 15))))) (.node (nB 0) (.node (nB 0) (.node (nB 0) (.node (nB 0) (.node (nB 0) (lB (nB 0) 13) (fB 14)) (.node (nB 0)
  (lB (nB 0) 13) (fB 14))) (.node (nB 0) (.node (nB 0) (lB (nB 0) 13) (fB 14)) (.node (nB 0) (lB (nB 0) 13) (fB 14)))) (.node (nB 0) (.node (nB 0) (.node (nB 0) (lB (nB 0) 13) (fB
  14)) (.node (nB 0) (lB (nB 0) 13) (fB 14))) (.node (nB 0) (.node (nB 0) (lB (nB 0) 13) (fB 14)) (fB 15)))) (.node (nB 0) (.node (nB 0) (.node (nB 0) (fB 15) (.node (nB 0) (lB (nB
  0) 13) (fB 14))) (.node (nB 0) (.node (nB 0) (lB (nB 0) 13) (fB 14)) (.node (nB 0) (lB (nB 0) 13) (fB 14)))) (.node (nB 0) (.node (nB 0) (.node (nB 0) (lB (nB 0) 13) (fB 14))
  (.node (nB 0) (lB (nB 0) 13) (fB 14))) (.node (nB 0) (.node (nB 0) (lB (nB 0) 13) (fB 14)) (fB 15)))))) (.node (nB 0) (.node (nB 0) (.node (nB 0) (.node (nB 0) (.node (nB 0) (.node
  (nB 0) (lB (nB 0) 13) (fB 14)) (.node (nB 0) (.node (nB 0) (lB (nB 76) 12) (fB 13)) (fB 14))) (.node (nB 0) (.node (nB 0) (lB (nB 0) 13) (fB 14)) (.node (nB 0) (lB (nB 0) 13) (fB
  14)))) (.node (nB 0) (.node (nB 0) (.node (nB 0) (.node (nB 0) (lB (nB 76) 12) (fB 13)) (fB 14)) (.node (nB 0) (lB (nB 0) 13) (fB 14))) (.node (nB 0) (.node (nB 0) (lB (nB 0) 13)
  (fB 14)) (fB 15)))) (.node (nB 0) (.node (nB 0) (.node (nB 0) (fB 15) (.node (nB 0) (lB (nB 0) 13) (fB 14))) (.node (nB 0) (.node (nB 0) (lB (nB 0) 13) (fB 14)) (.node (nB 0) (lB
  (nB 0) 13) (fB 14)))) (.node (nB 0) (.node (nB 0) (.node (nB 0) (lB (nB 0) 13) (fB 14)) (.node (nB 0) (lB (nB 0) 13) (fB 14))) (.node (nB 0) (.node (nB 0) (lB (nB 0) 13) (fB 14))
  (fB 15))))) (.node (nB 0) (.node (nB 0) (.node (nB 0) (.node (nB 0) (fB 15) (.node (nB 0) (lB (nB 0) 13) (fB 14))) (.node (nB 0) (.node (nB 0) (lB (nB 0) 13) (fB 14)) (.node (nB 0)
  (lB (nB 0) 13) (fB 14)))) (.node (nB 0) (.node (nB 0) (.node (nB 0) (lB (nB 0) 13) (fB 14)) (.node (nB 0) (lB (nB 0) 13) (fB 14))) (.node (nB 0) (.node (nB 0) (lB (nB 0) 13) (fB
  14)) (fB 15)))) (.node (nB 0) (.node (nB 0) (.node (nB 0) (fB 15) (.node (nB 0) (lB (nB 0) 13) (fB 14))) (.node (nB 0) (.node (nB 0) (lB (nB 0) 13) (fB 14)) (.node (nB 0) (lB (nB
  0) 13) (fB 14)))) (.node (nB 0) (.node (nB 0) (.node (nB 0) (lB (nB 0) 13) (fB 14)) (.node (nB 0) (lB (nB 0) 13) (fB 14))) (.node (nB 0) (.node (nB 0) (lB (nB 0) 13) (fB 14)) (fB
  15))))))) (.node (nB 0) (.node (nB 0) (.node (nB 0) (.node (nB 0) (.node (nB 0) (.node (nB 0) (.node (nB 0) (lB (nB 0) 13) (fB 14)) (.node (nB 0) (.node (nB 0) (lB (nB 69) 12) (fB
  13)) (fB 14))) (.node (nB 0) (.node (nB 0) (lB (nB 0) 13) (fB 14)) (.node (nB 0) (lB (nB 0) 13) (fB 14)))) (.node (nB 0) (.node (nB 0) (.node (nB 0) (.node (nB 0) (lB (nB 69) 12)
  (fB 13)) (fB 14)) (.node (nB 0) (lB (nB 0) 13) (fB 14))) (.node (nB 0) (.node (nB 0) (lB (nB 0) 13) (fB 14)) (fB 15)))) (.node (nB 0) (.node (nB 0) (.node (nB 0) (fB 15) (.node (nB
  0) (lB (nB 0) 13) (fB 14))) (.node (nB 0) (.node (nB 0) (lB (nB 0) 13) (fB 14)) (.node (nB 0) (lB (nB 0) 13) (fB 14)))) (.node (nB 0) (.node (nB 0) (.node (nB 0) (lB (nB 0) 13) (fB
  14)) (.node (nB 0) (lB (nB 0) 13) (fB 14))) (.node (nB 0) (.node (nB 0) (lB (nB 0) 13) (fB 14)) (fB 15))))) (.node (nB 0) (.node (nB 0) (.node (nB 0) (.node (nB 0) (fB 15) (.node
  (nB 0) (lB (nB 0) 13) (fB 14))) (.node (nB 0) (.node (nB 0) (lB (nB 0) 13) (fB 14)) (.node (nB 0) (lB (nB 0) 13) (fB 14)))) (.node (nB 0) (.node (nB 0) (.node (nB 0) (lB (nB 0) 13)
  (fB 14)) (.node (nB 0) (lB (nB 0) 13) (fB 14))) (.node (nB 0) (.node (nB 0) (lB (nB 0) 13) (fB 14)) (fB 15)))) (.node (nB 0) (.node (nB 0) (.node (nB 0) (fB 15) (.node (nB 0) (lB
  (nB 0) 13) (fB 14))) (.node (nB 0) (.node (nB 0) (lB (nB 0) 13) (fB 14)) (.node (nB 0) (lB (nB 0) 13) (fB 14)))) (.node (nB 0) (.node (nB 0) (.node (nB 0) (lB (nB 0) 13) (fB 14))
  (.node (nB 0) (lB (nB 0) 13) (fB 14))) (.node (nB 0) (.node (nB 0) (lB (nB 0) 13) (fB 14)) (fB 15)))))) (.node (nB 255) (.node (nB 0) (.node (nB 0) (.node (nB 0) (.node (nB 0)
  (.node (nB 0) (lB (nB 0) 13) (fB 14)) (.node (nB 0) (lB (nB 0) 13) (fB 14))) (.node (nB 0) (.node (nB 0) (lB (nB 0) 13) (fB 14)) (.node (nB 0) (lB (nB 0) 13) (fB 14)))) (.node (nB
  0) (.node (nB 0) (.node (nB 0) (lB (nB 0) 13) (fB 14)) (.node (nB 0) (lB (nB 0) 13) (fB 14))) (.node (nB 0) (.node (nB 0) (lB (nB 0) 13) (fB 14)) (fB 15)))) (.node (nB 0) (.node
  (nB 0) (.node (nB 0) (fB 15) (.node (nB 0) (lB (nB 0) 13) (fB 14))) (.node (nB 0) (.node (nB 0) (lB (nB 0) 13) (fB 14)) (.node (nB 0) (lB (nB 0) 13) (fB 14)))) (.node (nB 0) (.node
  (nB 0) (.node (nB 0) (lB (nB 0) 13) (fB 14)) (.node (nB 0) (lB (nB 0) 13) (fB 14))) (.node (nB 0) (.node (nB 0) (lB (nB 0) 13) (fB 14)) (fB 15))))) (.node (nB 0) (.node (nB 0)
  (.node (nB 0) (.node (nB 0) (fB 15) (.node (nB 0) (lB (nB 0) 13) (fB 14))) (.node (nB 0) (.node (nB 0) (lB (nB 0) 13) (fB 14)) (.node (nB 0) (lB (nB 0) 13) (fB 14)))) (.node (nB 0)
  (.node (nB 0) (.node (nB 0) (lB (nB 0) 13) (fB 14)) (.node (nB 0) (lB (nB 0) 13) (fB 14))) (.node (nB 0) (.node (nB 0) (lB (nB 0) 13) (fB 14)) (fB 15)))) (.node (nB 0) (.node (nB
  0) (.node (nB 0) (fB 15) (.node (nB 0) (lB (nB 0) 13) (fB 14))) (.node (nB 0) (.node (nB 0) (lB (nB 0) 13) (fB 14)) (.node (nB 0) (lB (nB 0) 13) (fB 14)))) (.node (nB 0) (.node (nB
  0) (.node (nB 0) (lB (nB 0) 13) (fB 14)) (.node (nB 0) (lB (nB 0) 13) (fB 14))) (.node (nB 0) (.node (nB 0) (lB (nB 0) 13) (fB 14)) (fB 15)))))))) (.node (nB 65) (.node (nB 20)
  (.node (nB 8) (.node (nB 0) (.node (nB 0) (.node (nB 0) (.node (nB 0) (.node (nB 0) (lB (nB 0) 13) (fB 14)) (.node (nB 0) (lB (nB 0) 13) (fB 14))) (.node (nB 0) (.node (nB 0) (lB
  (nB 0) 13) (fB 14)) (.node (nB 0) (lB (nB 0) 13) (fB 14)))) (.node (nB 0) (.node (nB 0) (.node (nB 0) (lB (nB 0) 13) (fB 14)) (.node (nB 0) (lB (nB 0) 13) (fB 14))) (.node (nB 0)
  (.node (nB 0) (lB (nB 0) 13) (fB 14)) (fB 15)))) (.node (nB 0) (.node (nB 0) (.node (nB 0) (fB 15) (.node (nB 0) (.node (nB 0) (lB (nB 9) 12) (fB 13)) (fB 14))) (.node (nB 0)
  (.node (nB 0) (lB (nB 0) 13) (fB 14)) (.node (nB 0) (lB (nB 0) 13) (fB 14)))) (.node (nB 0) (.node (nB 0) (.node (nB 0) (.node (nB 0) (lB (nB 8) 12) (fB 13)) (fB 14)) (.node (nB 0)
  (lB (nB 0) 13) (fB 14))) (.node (nB 0) (.node (nB 0) (lB (nB 0) 13) (fB 14)) (fB 15))))) (.node (nB 0) (.node (nB 0) (.node (nB 0) (.node (nB 0) (fB 15) (.node (nB 0) (lB (nB 0)
  13) (fB 14))) (.node (nB 0) (.node (nB 0) (lB (nB 0) 13) (fB 14)) (.node (nB 0) (lB (nB 0) 13) (fB 14)))) (.node (nB 0) (.node (nB 0) (.node (nB 0) (.node (nB 0) (lB (nB 9) 12) (fB
  13)) (fB 14)) (.node (nB 0) (lB (nB 0) 13) (fB 14))) (.node (nB 0) (.node (nB 0) (lB (nB 0) 13) (fB 14)) (fB 15)))) (.node (nB 0) (.node (nB 0) (.node (nB 0) (fB 15) (.node (nB 0)
  (lB (nB 0) 13) (fB 14))) (.node (nB 0) (.node (nB 0) (lB (nB 0) 13) (fB 14)) (.node (nB 0) (lB (nB 0) 13) (fB 14)))) (.node (nB 0) (.node (nB 0) (.node (nB 0) (lB (nB 0) 13) (fB
  14)) (.node (nB 0) (lB (nB 0) 13) (fB 14))) (.node (nB 0) (.node (nB 0) (lB (nB 0) 13) (fB 14)) (fB 15)))))) (.node (nB 235) (.node (nB 0) (.node (nB 0) (.node (nB 0) (.node (nB 0)
  (.node (nB 0) (lB (nB 0) 13) (fB 14)) (.node (nB 0) (lB (nB 0) 13) (fB 14))) (.node (nB 0) (.node (nB 0) (.node (nB 0) (lB (nB 4) 12) (fB 13)) (fB 14)) (.node (nB 0) (lB (nB 0) 13)
  (fB 14)))) (.node (nB 0) (.node (nB 0) (.node (nB 0) (lB (nB 0) 13) (fB 14)) (.node (nB 0) (.node (nB 0) (lB (nB 4) 12) (fB 13)) (fB 14))) (.node (nB 0) (.node (nB 0) (lB (nB 0)
  13) (fB 14)) (fB 15)))) (.node (nB 0) (.node (nB 0) (.node (nB 0) (fB 15) (.node (nB 0) (lB (nB 0) 13) (fB 14))) (.node (nB 0) (.node (nB 0) (lB (nB 0) 13) (fB 14)) (.node (nB 0)
  (lB (nB 0) 13) (fB 14)))) (.node (nB 0) (.node (nB 0) (.node (nB 0) (lB (nB 0) 13) (fB 14)) (.node (nB 0) (lB (nB 0) 13) (fB 14))) (.node (nB 0) (.node (nB 0) (lB (nB 0) 13) (fB
  14)) (fB 15))))) (.node (nB 0) (.node (nB 0) (.node (nB 0) (.node (nB 0) (fB 15) (.node (nB 0) (lB (nB 0) 13) (fB 14))) (.node (nB 0) (.node (nB 0) (.node (nB 0) (lB (nB 4) 12) (fB
  13)) (fB 14)) (.node (nB 0) (lB (nB 0) 13) (fB 14)))) (.node (nB 0) (.node (nB 0) (.node (nB 0) (lB (nB 0) 13) (fB 14)) (.node (nB 0) (.node (nB 0) (lB (nB 5) 12) (fB 13)) (fB
  14))) (.node (nB 0) (.node (nB 0) (lB (nB 0) 13) (fB 14)) (fB 15)))) (.node (nB 0) (.node (nB 0) (.node (nB 0) (fB 15) (.node (nB 0) (lB (nB 0) 13) (fB 14))) (.node (nB 0) (.node
  (nB 0) (lB (nB 0) 13) (fB 14)) (.node (nB 0) (lB (nB 0) 13) (fB 14)))) (.node (nB 0) (.node (nB 0) (.node (nB 0) (lB (nB 0) 13) (fB 14)) (.node (nB 0) (lB (nB 0) 13) (fB 14)))
  (.node (nB 0) (.node (nB 0) (lB (nB 0) 13) (fB 14)) (fB 15))))))) (.node (nB 0) (.node (nB 0) (.node (nB 0) (.node (nB 0) (.node (nB 0) (.node (nB 0) (.node (nB 0) (lB (nB 0) 13)
  (fB 14)) (.node (nB 0) (.node (nB 0) (lB (nB 86) 12) (fB 13)) (fB 14))) (.node (nB 0) (.node (nB 0) (lB (nB 0) 13) (fB 14)) (.node (nB 0) (lB (nB 0) 13) (fB 14)))) (.node (nB 0)
  (.node (nB 0) (.node (nB 0) (.node (nB 0) (lB (nB 86) 12) (fB 13)) (fB 14)) (.node (nB 0) (lB (nB 0) 13) (fB 14))) (.node (nB 0) (.node (nB 0) (lB (nB 0) 13) (fB 14)) (fB 15))))
  (.node (nB 0) (.node (nB 0) (.node (nB 0) (fB 15) (.node (nB 0) (lB (nB 0) 13) (fB 14))) (.node (nB 0) (.node (nB 0) (lB (nB 0) 13) (fB 14)) (.node (nB 0) (lB (nB 0) 13) (fB 14))))
  (.node (nB 0) (.node (nB 0) (.node (nB 0) (lB (nB 0) 13) (fB 14)) (.node (nB 0) (lB (nB 0) 13) (fB 14))) (.node (nB 0) (.node (nB 0) (lB (nB 0) 13) (fB 14)) (fB 15))))) (.node (nB
  0) (.node (nB 0) (.node (nB 0) (.node (nB 0) (fB 15) (.node (nB 0) (lB (nB 0) 13) (fB 14))) (.node (nB 0) (.node (nB 0) (lB (nB 0) 13) (fB 14)) (.node (nB 0) (lB (nB 0) 13) (fB
  14)))) (.node (nB 0) (.node (nB 0) (.node (nB 0) (lB (nB 0) 13) (fB 14)) (.node (nB 0) (lB (nB 0) 13) (fB 14))) (.node (nB 0) (.node (nB 0) (lB (nB 0) 13) (fB 14)) (fB 15))))
  (.node (nB 0) (.node (nB 0) (.node (nB 0) (fB 15) (.node (nB 0) (lB (nB 0) 13) (fB 14))) (.node (nB 0) (.node (nB 0) (lB (nB 0) 13) (fB 14)) (.node (nB 0) (lB (nB 0) 13) (fB 14))))
  (.node (nB 0) (.node (nB 0) (.node (nB 0) (lB (nB 0) 13) (fB 14)) (.node (nB 0) (lB (nB 0) 13) (fB 14))) (.node (nB 0) (.node (nB 0) (lB (nB 0) 13) (fB 14)) (fB 15)))))) (.node (nB
  255) (.node (nB 0) (.node (nB 0) (.node (nB 0) (.node (nB 0) (.node (nB 0) (lB (nB 0) 13) (fB 14)) (.node (nB 0) (lB (nB 0) 13) (fB 14))) (.node (nB 0) (.node (nB 0) (lB (nB 0) 13)
  (fB 14)) (.node (nB 0) (lB (nB 0) 13) (fB 14)))) (.node (nB 0) (.node (nB 0) (.node (nB 0) (lB (nB 0) 13) (fB 14)) (.node (nB 0) (lB (nB 0) 13) (fB 14))) (.node (nB 0) (.node (nB
  0) (lB (nB 0) 13) (fB 14)) (fB 15)))) (.node (nB 0) (.node (nB 0) (.node (nB 0) (fB 15) (.node (nB 0) (lB (nB 0) 13) (fB 14))) (.node (nB 0) (.node (nB 0) (lB (nB 0) 13) (fB 14))
  (.node (nB 0) (lB (nB 0) 13) (fB 14)))) (.node (nB 0) (.node (nB 0) (.node (nB 0) (lB (nB 0) 13) (fB 14)) (.node (nB 0) (lB (nB 0) 13) (fB 14))) (.node (nB 0) (.node (nB 0) (lB (nB
  0) 13) (fB 14)) (fB 15))))) (.node (nB 0) (.node (nB 0) (.node (nB 0) (.node (nB 0) (fB 15) (.node (nB 0) (lB (nB 0) 13) (fB 14))) (.node (nB 0) (.node (nB 0) (lB (nB 0) 13) (fB
  14)) (.node (nB 0) (lB (nB 0) 13) (fB 14)))) (.node (nB 0) (.node (nB 0) (.node (nB 0) (lB (nB 0) 13) (fB 14)) (.node (nB 0) (lB (nB 0) 13) (fB 14))) (.node (nB 0) (.node (nB 0)
  (lB (nB 0) 13) (fB 14)) (fB 15)))) (.node (nB 0) (.node (nB 0) (.node (nB 0) (fB 15) (.node (nB 0) (lB (nB 0) 13) (fB 14))) (.node (nB 0) (.node (nB 0) (lB (nB 0) 13) (fB 14))
  (.node (nB 0) (lB (nB 0) 13) (fB 14)))) (.node (nB 0) (.node (nB 0) (.node (nB 0) (lB (nB 0) 13) (fB 14)) (.node (nB 0) (lB (nB 0) 13) (fB 14))) (.node (nB 0) (.node (nB 0) (lB (nB
  0) 13) (fB 14)) (fB 15))))))))) (.node (nB 83) (.node (nB 70) (.node (nB 0) (.node (nB 64) (.node (nB 0) (.node (nB 0) (.node (nB 0) (.node (nB 0) (.node (nB 0) (.node (nB 1) (lB
  (nB 3) 12) (fB 13)) (fB 14)) (.node (nB 0) (lB (nB 1) 13) (fB 14))) (.node (nB 0) (.node (nB 0) (.node (nB 1) (lB (nB 1) 12) (fB 13)) (fB 14)) (.node (nB 0) (lB (nB 0) 13) (fB
  14)))) (.node (nB 0) (.node (nB 0) (.node (nB 0) (lB (nB 1) 13) (fB 14)) (.node (nB 0) (.node (nB 0) (lB (nB 3) 12) (fB 13)) (fB 14))) (.node (nB 0) (.node (nB 0) (lB (nB 1) 13)
  (fB 14)) (fB 15)))) (.node (nB 0) (.node (nB 0) (.node (nB 0) (fB 15) (.node (nB 0) (lB (nB 0) 13) (fB 14))) (.node (nB 0) (.node (nB 0) (lB (nB 0) 13) (fB 14)) (.node (nB 0) (lB
  (nB 0) 13) (fB 14)))) (.node (nB 0) (.node (nB 0) (.node (nB 0) (.node (nB 0) (lB (nB 64) 12) (fB 13)) (fB 14)) (.node (nB 0) (lB (nB 0) 13) (fB 14))) (.node (nB 0) (.node (nB 0)
  (lB (nB 0) 13) (fB 14)) (fB 15))))) (.node (nB 0) (.node (nB 0) (.node (nB 0) (.node (nB 0) (fB 15) (.node (nB 0) (lB (nB 0) 13) (fB 14))) (.node (nB 0) (.node (nB 0) (.node (nB 0)
  (lB (nB 2) 12) (fB 13)) (fB 14)) (.node (nB 0) (lB (nB 0) 13) (fB 14)))) (.node (nB 0) (.node (nB 0) (.node (nB 0) (lB (nB 0) 13) (fB 14)) (.node (nB 0) (.node (nB 0) (lB (nB 4)
  12) (fB 13)) (fB 14))) (.node (nB 0) (.node (nB 0) (lB (nB 0) 13) (fB 14)) (fB 15)))) (.node (nB 0) (.node (nB 0) (.node (nB 0) (fB 15) (.node (nB 0) (lB (nB 0) 13) (fB 14)))
  (.node (nB 0) (.node (nB 0) (lB (nB 0) 13) (fB 14)) (.node (nB 0) (lB (nB 0) 13) (fB 14)))) (.node (nB 0) (.node (nB 0) (.node (nB 0) (lB (nB 0) 13) (fB 14)) (.node (nB 0) (lB (nB
  0) 13) (fB 14))) (.node (nB 0) (.node (nB 0) (lB (nB 0) 13) (fB 14)) (fB 15)))))) (.node (nB 255) (.node (nB 0) (.node (nB 0) (.node (nB 0) (.node (nB 0) (.node (nB 0) (.node (nB
  15) (lB (nB 3) 12) (fB 13)) (fB 14)) (.node (nB 0) (.node (nB 52) (lB (nB 3) 12) (fB 13)) (fB 14))) (.node (nB 0) (.node (nB 0) (.node (nB 50) (lB (nB 64) 12) (fB 13)) (fB 14))
  (.node (nB 0) (lB (nB 0) 13) (fB 14)))) (.node (nB 0) (.node (nB 0) (.node (nB 0) (lB (nB 49) 13) (fB 14)) (.node (nB 0) (.node (nB 0) (lB (nB 192) 12) (fB 13)) (fB 14))) (.node
  (nB 0) (.node (nB 0) (lB (nB 51) 13) (fB 14)) (fB 15)))) (.node (nB 0) (.node (nB 0) (.node (nB 0) (fB 15) (.node (nB 0) (lB (nB 0) 13) (fB 14))) (.node (nB 0) (.node (nB 0) (lB
  (nB 0) 13) (fB 14)) (.node (nB 0) (lB (nB 0) 13) (fB 14)))) (.node (nB 0) (.node (nB 0) (.node (nB 0) (lB (nB 0) 13) (fB 14)) (.node (nB 0) (lB (nB 0) 13) (fB 14))) (.node (nB 0)
  (.node (nB 0) (lB (nB 0) 13) (fB 14)) (fB 15))))) (.node (nB 0) (.node (nB 0) (.node (nB 0) (.node (nB 0) (fB 15) (.node (nB 0) (lB (nB 0) 13) (fB 14))) (.node (nB 0) (.node (nB 0)
  (.node (nB 0) (lB (nB 128) 12) (fB 13)) (fB 14)) (.node (nB 0) (lB (nB 0) 13) (fB 14)))) (.node (nB 0) (.node (nB 0) (.node (nB 0) (lB (nB 0) 13) (fB 14)) (.node (nB 0) (lB (nB 0)
  13) (fB 14))) (.node (nB 0) (.node (nB 0) (lB (nB 0) 13) (fB 14)) (fB 15)))) (.node (nB 0) (.node (nB 0) (.node (nB 0) (fB 15) (.node (nB 0) (lB (nB 0) 13) (fB 14))) (.node (nB 0)
  (.node (nB 0) (lB (nB 0) 13) (fB 14)) (.node (nB 0) (lB (nB 0) 13) (fB 14)))) (.node (nB 0) (.node (nB 0) (.node (nB 0) (lB (nB 0) 13) (fB 14)) (.node (nB 0) (lB (nB 0) 13) (fB
  14))) (.node (nB 0) (.node (nB 0) (lB (nB 0) 13) (fB 14)) (fB 15))))))) (.node (nB 0) (.node (nB 0) (.node (nB 0) (.node (nB 0) (.node (nB 0) (.node (nB 0) (.node (nB 0) (lB (nB 0)
  13) (fB 14)) (.node (nB 0) (.node (nB 0) (lB (nB 69) 12) (fB 13)) (fB 14))) (.node (nB 0) (.node (nB 0) (lB (nB 0) 13) (fB 14)) (.node (nB 0) (lB (nB 0) 13) (fB 14)))) (.node (nB
  0) (.node (nB 0) (.node (nB 0) (.node (nB 0) (lB (nB 69) 12) (fB 13)) (fB 14)) (.node (nB 0) (lB (nB 0) 13) (fB 14))) (.node (nB 0) (.node (nB 0) (lB (nB 0) 13) (fB 14)) (fB 15))))
  (.node (nB 0) (.node (nB 0) (.node (nB 0) (fB 15) (.node (nB 0) (lB (nB 0) 13) (fB 14))) (.node (nB 0) (.node (nB 0) (lB (nB 0) 13) (fB 14)) (.node (nB 0) (lB (nB 0) 13) (fB 14))))
  (.node (nB 0) (.node (nB 0) (.node (nB 0) (lB (nB 0) 13) (fB 14)) (.node (nB 0) (lB (nB 0) 13) (fB 14))) (.node (nB 0) (.node (nB 0) (lB (nB 0) 13) (fB 14)) (fB 15))))) (.node (nB
  0) (.node (nB 0) (.node (nB 0) (.node (nB 0) (fB 15) (.node (nB 0) (lB (nB 0) 13) (fB 14))) (.node (nB 0) (.node (nB 0) (lB (nB 0) 13) (fB 14)) (.node (nB 0) (lB (nB 0) 13) (fB
  14)))) (.node (nB 0) (.node (nB 0) (.node (nB 0) (lB (nB 0) 13) (fB 14)) (.node (nB 0) (lB (nB 0) 13) (fB 14))) (.node (nB 0) (.node (nB 0) (lB (nB 0) 13) (fB 14)) (fB 15))))
  (.node (nB 0) (.node (nB 0) (.node (nB 0) (fB 15) (.node (nB 0) (lB (nB 0) 13) (fB 14))) (.node (nB 0) (.node (nB 0) (lB (nB 0) 13) (fB 14)) (.node (nB 0) (lB (nB 0) 13) (fB 14))))
  (.node (nB 0) (.node (nB 0) (.node (nB 0) (lB (nB 0) 13) (fB 14)) (.node (nB 0) (lB (nB 0) 13) (fB 14))) (.node (nB 0) (.node (nB 0) (lB (nB 0) 13) (fB 14)) (fB 15)))))) (.node (nB
  255) (.node (nB 0) (.node (nB 0) (.node (nB 0) (.node (nB 0) (.node (nB 0) (lB (nB 0) 13) (fB 14)) (.node (nB 0) (lB (nB 0) 13) (fB 14))) (.node (nB 0) (.node (nB 0) (lB (nB 0) 13)
  (fB 14)) (.node (nB 0) (lB (nB 0) 13) (fB 14)))) (.node (nB 0) (.node (nB 0) (.node (nB 0) (lB (nB 0) 13) (fB 14)) (.node (nB 0) (lB (nB 0) 13) (fB 14))) (.node (nB 0) (.node (nB
  0) (lB (nB 0) 13) (fB 14)) (fB 15)))) (.node (nB 0) (.node (nB 0) (.node (nB 0) (fB 15) (.node (nB 0) (lB (nB 0) 13) (fB 14))) (.node (nB 0) (.node (nB 0) (lB (nB 0) 13) (fB 14))
  (.node (nB 0) (lB (nB 0) 13) (fB 14)))) (.node (nB 0) (.node (nB 0) (.node (nB 0) (lB (nB 0) 13) (fB 14)) (.node (nB 0) (lB (nB 0) 13) (fB 14))) (.node (nB 0) (.node (nB 0) (lB (nB
  0) 13) (fB 14)) (fB 15))))) (.node (nB 0) (.node (nB 0) (.node (nB 0) (.node (nB 0) (fB 15) (.node (nB 0) (lB (nB 0) 13) (fB 14))) (.node (nB 0) (.node (nB 0) (lB (nB 0) 13) (fB
  14)) (.node (nB 0) (lB (nB 0) 13) (fB 14)))) (.node (nB 0) (.node (nB 0) (.node (nB 0) (lB (nB 0) 13) (fB 14)) (.node (nB 0) (lB (nB 0) 13) (fB 14))) (.node (nB 0) (.node (nB 0)
  (lB (nB 0) 13) (fB 14)) (fB 15)))) (.node (nB 0) (.node (nB 0) (.node (nB 0) (fB 15) (.node (nB 0) (lB (nB 0) 13) (fB 14))) (.node (nB 0) (.node (nB 0) (lB (nB 0) 13) (fB 14))
  (.node (nB 0) (lB (nB 0) 13) (fB 14)))) (.node (nB 0) (.node (nB 0) (.node (nB 0) (lB (nB 0) 13) (fB 14)) (.node (nB 0) (lB (nB 0) 13) (fB 14))) (.node (nB 0) (.node (nB 0) (lB (nB
  0) 13) (fB 14)) (fB 15)))))))) (.node (nB 73) (.node (nB 0) (.node (nB 0) (.node (nB 0) (.node (nB 0) (.node (nB 0) (.node (nB 0) (.node (nB 0) (lB (nB 0) 13) (fB 14)) (.node (nB
  0) (lB (nB 0) 13) (fB 14))) (.node (nB 0) (.node (nB 0) (lB (nB 0) 13) (fB 14)) (.node (nB 0) (lB (nB 0) 13) (fB 14)))) (.node (nB 0) (.node (nB 0) (.node (nB 0) (lB (nB 0) 13) (fB
  14)) (.node (nB 0) (lB (nB 0) 13) (fB 14))) (.node (nB 0) (.node (nB 0) (lB (nB 0) 13) (fB 14)) (fB 15)))) (.node (nB 0) (.node (nB 0) (.node (nB 0) (fB 15) (.node (nB 0) (lB (nB
  0) 13) (fB 14))) (.node (nB 0) (.node (nB 0) (lB (nB 0) 13) (fB 14)) (.node (nB 0) (lB (nB 0) 13) (fB 14)))) (.node (nB 0) (.node (nB 0) (.node (nB 0) (lB (nB 0) 13) (fB 14))
  (.node (nB 0) (lB (nB 0) 13) (fB 14))) (.node (nB 0) (.node (nB 0) (lB (nB 0) 13) (fB 14)) (fB 15))))) (.node (nB 0) (.node (nB 0) (.node (nB 0) (.node (nB 0) (fB 15) (.node (nB 0)
  (lB (nB 0) 13) (fB 14))) (.node (nB 0) (.node (nB 0) (lB (nB 0) 13) (fB 14)) (.node (nB 0) (lB (nB 0) 13) (fB 14)))) (.node (nB 0) (.node (nB 0) (.node (nB 0) (lB (nB 0) 13) (fB
  14)) (.node (nB 0) (lB (nB 0) 13) (fB 14))) (.node (nB 0) (.node (nB 0) (lB (nB 0) 13) (fB 14)) (fB 15)))) (.node (nB 0) (.node (nB 0) (.node (nB 0) (fB 15) (.node (nB 0) (lB (nB
  0) 13) (fB 14))) (.node (nB 0) (.node (nB 0) (lB (nB 0) 13) (fB 14)) (.node (nB 0) (lB (nB 0) 13) (fB 14)))) (.node (nB 0) (.node (nB 0) (.node (nB 0) (lB (nB 0) 13) (fB 14))
  (.node (nB 0) (lB (nB 0) 13) (fB 14))) (.node (nB 0) (.node (nB 0) (lB (nB 0) 13) (fB 14)) (fB 15)))))) (.node (nB 255) (.node (nB 0) (.node (nB 0) (.node (nB 0) (.node (nB 0)
  (.node (nB 0) (lB (nB 0) 13) (fB 14)) (.node (nB 0) (lB (nB 0) 13) (fB 14))) (.node (nB 0) (.node (nB 0) (lB (nB 0) 13) (fB 14)) (.node (nB 0) (lB (nB 0) 13) (fB 14)))) (.node (nB
  0) (.node (nB 0) (.node (nB 0) (lB (nB 0) 13) (fB 14)) (.node (nB 0) (lB (nB 0) 13) (fB 14))) (.node (nB 0) (.node (nB 0) (lB (nB 0) 13) (fB 14)) (fB 15)))) (.node (nB 0) (.node
  (nB 0) (.node (nB 0) (fB 15) (.node (nB 0) (lB (nB 0) 13) (fB 14))) (.node (nB 0) (.node (nB 0) (lB (nB 0) 13) (fB 14)) (.node (nB 0) (lB (nB 0) 13) (fB 14)))) (.node (nB 0) (.node
  (nB 0) (.node (nB 0) (lB (nB 0) 13) (fB 14)) (.node (nB 0) (lB (nB 0) 13) (fB 14))) (.node (nB 0) (.node (nB 0) (lB (nB 0) 13) (fB 14)) (fB 15))))) (.node (nB 0) (.node (nB 0)
  (.node (nB 0) (.node (nB 0) (fB 15) (.node (nB 0) (lB (nB 0) 13) (fB 14))) (.node (nB 0) (.node (nB 0) (lB (nB 0) 13) (fB 14)) (.node (nB 0) (lB (nB 0) 13) (fB 14)))) (.node (nB 0)
  (.node (nB 0) (.node (nB 0) (lB (nB 0) 13) (fB 14)) (.node (nB 0) (lB (nB 0) 13) (fB 14))) (.node (nB 0) (.node (nB 0) (lB (nB 0) 13) (fB 14)) (fB 15)))) (.node (nB 0) (.node (nB
  0) (.node (nB 0) (fB 15) (.node (nB 0) (lB (nB 0) 13) (fB 14))) (.node (nB 0) (.node (nB 0) (lB (nB 0) 13) (fB 14)) (.node (nB 0) (lB (nB 0) 13) (fB 14)))) (.node (nB 0) (.node (nB
  0) (.node (nB 0) (lB (nB 0) 13) (fB 14)) (.node (nB 0) (lB (nB 0) 13) (fB 14))) (.node (nB 0) (.node (nB 0) (lB (nB 0) 13) (fB 14)) (fB 15))))))) (.node (nB 0) (.node (nB 0) (.node
  (nB 0) (.node (nB 0) (.node (nB 0) (.node (nB 0) (.node (nB 0) (lB (nB 0) 13) (fB 14)) (.node (nB 0) (.node (nB 0) (lB (nB 69) 12) (fB 13)) (fB 14))) (.node (nB 0) (.node (nB 0)
  (lB (nB 0) 13) (fB 14)) (.node (nB 0) (lB (nB 0) 13) (fB 14)))) (.node (nB 0) (.node (nB 0) (.node (nB 0) (.node (nB 0) (lB (nB 69) 12) (fB 13)) (fB 14)) (.node (nB 0) (lB (nB 0)
  13) (fB 14))) (.node (nB 0) (.node (nB 0) (lB (nB 0) 13) (fB 14)) (fB 15)))) (.node (nB 0) (.node (nB 0) (.node (nB 0) (fB 15) (.node (nB 0) (lB (nB 0) 13) (fB 14))) (.node (nB 0)
  (.node (nB 0) (lB (nB 0) 13) (fB 14)) (.node (nB 0) (lB (nB 0) 13) (fB 14)))) (.node (nB 0) (.node (nB 0) (.node (nB 0) (lB (nB 0) 13) (fB 14)) (.node (nB 0) (lB (nB 0) 13) (fB
  14))) (.node (nB 0) (.node (nB 0) (lB (nB 0) 13) (fB 14)) (fB 15))))) (.node (nB 0) (.node (nB 0) (.node (nB 0) (.node (nB 0) (fB 15) (.node (nB 0) (lB (nB 0) 13) (fB 14))) (.node
  (nB 0) (.node (nB 0) (lB (nB 0) 13) (fB 14)) (.node (nB 0) (lB (nB 0) 13) (fB 14)))) (.node (nB 0) (.node (nB 0) (.node (nB 0) (lB (nB 0) 13) (fB 14)) (.node (nB 0) (lB (nB 0) 13)
  (fB 14))) (.node (nB 0) (.node (nB 0) (lB (nB 0) 13) (fB 14)) (fB 15)))) (.node (nB 0) (.node (nB 0) (.node (nB 0) (fB 15) (.node (nB 0) (lB (nB 0) 13) (fB 14))) (.node (nB 0)
  (.node (nB 0) (lB (nB 0) 13) (fB 14)) (.node (nB 0) (lB (nB 0) 13) (fB 14)))) (.node (nB 0) (.node (nB 0) (.node (nB 0) (lB (nB 0) 13) (fB 14)) (.node (nB 0) (lB (nB 0) 13) (fB
  14))) (.node (nB 0) (.node (nB 0) (lB (nB 0) 13) (fB 14)) (fB 15)))))) (.node (nB 255) (.node (nB 0) (.node (nB 0) (.node (nB 0) (.node (nB 0) (.node (nB 0) (lB (nB 0) 13) (fB 14))
  (.node (nB 0) (lB (nB 0) 13) (fB 14))) (.node (nB 0) (.node (nB 0) (lB (nB 0) 13) (fB 14)) (.node (nB 0) (lB (nB 0) 13) (fB 14)))) (.node (nB 0) (.node (nB 0) (.node (nB 0) (lB (nB
  0) 13) (fB 14)) (.node (nB 0) (lB (nB 0) 13) (fB 14))) (.node (nB 0) (.node (nB 0) (lB (nB 0) 13) (fB 14)) (fB 15)))) (.node (nB 0) (.node (nB 0) (.node (nB 0) (fB 15) (.node (nB
  0) (lB (nB 0) 13) (fB 14))) (.node (nB 0) (.node (nB 0) (lB (nB 0) 13) (fB 14)) (.node (nB 0) (lB (nB 0) 13) (fB 14)))) (.node (nB 0) (.node (nB 0) (.node (nB 0) (lB (nB 0) 13) (fB
  14)) (.node (nB 0) (lB (nB 0) 13) (fB 14))) (.node (nB 0) (.node (nB 0) (lB (nB 0) 13) (fB 14)) (fB 15))))) (.node (nB 0) (.node (nB 0) (.node (nB 0) (.node (nB 0) (fB 15) (.node
  (nB 0) (lB (nB 0) 13) (fB 14))) (.node (nB 0) (.node (nB 0) (lB (nB 0) 13) (fB 14)) (.node (nB 0) (lB (nB 0) 13) (fB 14)))) (.node (nB 0) (.node (nB 0) (.node (nB 0) (lB (nB 0) 13)
  (fB 14)) (.node (nB 0) (lB (nB 0) 13) (fB 14))) (.node (nB 0) (.node (nB 0) (lB (nB 0) 13) (fB 14)) (fB 15)))) (.node (nB 0) (.node (nB 0) (.node (nB 0) (fB 15) (.node (nB 0) (lB
  (nB 0) 13) (fB 14))) (.node (nB 0) (.node (nB 0) (lB (nB 0) 13) (fB 14)) (.node (nB 0) (lB (nB 0) 13) (fB 14)))) (.node (nB 0) (.node (nB 0) (.node (nB 0) (lB (nB 0) 13) (fB 14))
  (.node (nB 0) (lB (nB 0) 13) (fB 14))) (.node (nB 0) (.node (nB 0) (lB (nB 0) 13) (fB 14)) (fB 15)))))))))) true false) (.node .dead (.node .dead (fD 17) (.node .dead (.node .dead
  (fD 15) (.node .dead (lD (.cells 271 1 1 (lA (.sl 1464 0 0 11 (.u 1464 0)) 23) true false) 13) (fD 14))) (fD 16))) (fD 18)) (fD 19)) (.node .dead (fD 19) (.node .dead (fD 18)
  (.node .dead (.node .dead (.node .dead (fD 15) (.node .dead (lD (.cells 25 1 640 (.node (nU 5929342154728227142) (.node (nU 5120) (.node (nU 18446744073709546495) (.node (nU 0)
  (.node (nU 0) (.node (nU 0) (.node (nU 0) (.node (nU 0) (.node (nU 0) (lA (nU 0) 14) (fA 15)) (.node (nU 0) (lA (nU 0) 14) (fA 15))) (.node (nU 0) (.node (nU 0) (lA (nU 0) 14) (fA
  15)) (lA (nU 0) 15))) (.node (nU 0) (.node (nU 0) (.node (nU 0) (lA (nU 0) 14) (fA 15)) (lA (nU 0) 15)) (.node (nU 0) (.node (nU 0) (lA (nU 0) 14) (fA 15)) (lA (nU 0) 15)))) (.node
  (nU 0) (.node (nU 0) (.node (nU 0) (.node (nU 0) (lA (nU 0) 14) (fA 15)) (lA (nU 0) 15)) (.node (nU 0) (.node (nU 0) (lA (nU 0) 14) (fA 15)) (lA (nU 0) 15))) (.node (nU 0) (.node
  (nU 0) (.node (nU 0) (lA (nU 0) 14) (fA 15)) (lA (nU 0) 15)) (.node (nU 0) (.node (nU 0) (lA (nU 0) 14) (fA 15)) (lA (nU 0) 15))))) (.node (nU 0) (.node (nU 0) (.node (nU 0) (.node
  (nU 0) (.node (nU 0) (lA (nU 0) 14) (fA 15)) (lA (nU 0) 15)) (.node (nU 0) (.node (nU 0) (lA (nU 0) 14) (fA 15)) (lA (nU 0) 15))) (.node (nU 0) (.node (nU 0) (.node (nU 0) (lA (nU
  0) 14) (fA 15)) (lA (nU 0) 15)) (.node (nU 0) (.node (nU 0) (lA (nU 0) 14) (fA 15)) (lA (nU 0) 15)))) (.node (nU 0) (.node (nU 0) (.node (nU 0) (.node (nU 0) (lA (nU 0) 14) (fA
  15)) (lA (nU 0) 15)) (.node (nU 0) (.node (nU 0) (lA (nU 0) 14) (fA 15)) (lA (nU 0) 15))) (.node (nU 0) (.node (nU 0) (.node (nU 0) (lA (nU 0) 14) (fA 15)) (lA (nU 0) 15)) (.node
  (nU 0) (.node (nU 0) (lA (nU 0) 14) (fA 15)) (lA (nU 0) 15)))))) (.node (nU 0) (.node (nU 0) (.node (nU 0) (.node (nU 0) (.node (nU 0) (.node (nU 0) (lA (nU 0) 14) (fA 15)) (lA (nU
  0) 15)) (.node (nU 0) (.node (nU 0) (lA (nU 0) 14) (fA 15)) (lA (nU 0) 15))) (.node (nU 0) (.node (nU 0) (.node (nU 0) (lA (nU 0) 14) (fA 15)) (lA (nU 0) 15)) (.node (nU 0) (.node
  (nU 0) (lA (nU 0) 14) (fA 15)) (lA (nU 0) 15)))) (.node (nU 0) (.node (nU 0) (.node (nU 0) (.node (nU 1152) (lA (nU 0) 14) (fA 15)) (lA (nU 0) 15)) (.node (nU 0) (.node (nU 0) (lA
  (nU 0) 14) (fA 15)) (lA (nU 0) 15))) (.node (nU 0) (.node (nU 0) (.node (nU 0) (lA (nU 0) 14) (fA 15)) (lA (nU 0) 15)) (.node (nU 0) (.node (nU 0) (lA (nU 0) 14) (fA 15)) (lA (nU
  0) 15))))) (.node (nU 0) (.node (nU 0) (.node (nU 0) (.node (nU 0) (.node (nU 0) (lA (nU 0) 14) (fA 15)) (lA (nU 0) 15)) (.node (nU 0) (.node (nU 0) (lA (nU 0) 14) (fA 15)) (lA (nU
  0) 15))) (.node (nU 0) (.node (nU 0) (.node (nU 1280) (lA (nU 0) 14) (fA 15)) (lA (nU 0) 15)) (.node (nU 0) (.node (nU 0) (lA (nU 0) 14) (fA 15)) (lA (nU 0) 15)))) (.node (nU 0)
  (.node (nU 0) (.node (nU 0) (.node (nU 0) (lA (nU 0) 14) (fA 15)) (lA (nU 0) 15)) (.node (nU 0) (.node (nU 0) (lA (nU 0) 14) (fA 15)) (lA (nU 0) 15))) (.node (nU 0) (.node (nU 0)
  (.node (nU 0) (lA (nU 0) 14) (fA 15)) (lA (nU 0) 15)) (.node (nU 0) (.node (nU 0) (lA (nU 0) 14) (fA 15)) (lA (nU 0) 15))))))) (.node (nU 0) (.node (nU 0) (.node (nU 0) (.node (nU
  0) (.node (nU 0) (.node (nU 15) (.node (nU 3) (lA (nU 0) 14) (fA 15)) (lA (nU 0) 15)) (.node (nU 0) (.node (nU 0) (lA (nU 0) 14) (fA 15)) (lA (nU 0) 15))) (.node (nU 0) (.node (nU
  52) (.node (nU 3) (lA (nU 0) 14) (fA 15)) (lA (nU 0) 15)) (.node (nU 0) (.node (nU 0) (lA (nU 0) 14) (fA 15)) (lA (nU 0) 15)))) (.node (nU 0) (.node (nU 0) (.node (nU 50) (.node
  (nU 1088) (lA (nU 0) 14) (fA 15)) (lA (nU 0) 15)) (.node (nU 0) (.node (nU 0) (lA (nU 0) 14) (fA 15)) (lA (nU 0) 15))) (.node (nU 0) (.node (nU 0) (.node (nU 0) (lA (nU 0) 14) (fA
  15)) (lA (nU 0) 15)) (.node (nU 0) (.node (nU 0) (lA (nU 0) 14) (fA 15)) (lA (nU 0) 15))))) (.node (nU 0) (.node (nU 0) (.node (nU 0) (.node (nU 49) (.node (nU 0) (lA (nU 0) 14)
  (fA 15)) (lA (nU 0) 15)) (.node (nU 0) (.node (nU 0) (lA (nU 0) 14) (fA 15)) (lA (nU 0) 15))) (.node (nU 0) (.node (nU 0) (.node (nU 1216) (lA (nU 0) 14) (fA 15)) (lA (nU 0) 15))
  (.node (nU 0) (.node (nU 0) (lA (nU 0) 14) (fA 15)) (lA (nU 0) 15)))) (.node (nU 0) (.node (nU 0) (.node (nU 51) (.node (nU 0) (lA (nU 0) 14) (fA 15)) (lA (nU 0) 15)) (.node (nU 0)
  (.node (nU 0) (lA (nU 0) 14) (fA 15)) (lA (nU 0) 15))) (.node (nU 0) (.node (nU 0) (.node (nU 0) (lA (nU 0) 14) (fA 15)) (lA (nU 0) 15)) (.node (nU 0) (.node (nU 0) (lA (nU 0) 14)
  (fA 15)) (lA (nU 0) 15)))))) (.node (nU 0) (.node (nU 0) (.node (nU 0) (.node (nU 0) (.node (nU 0) (.node (nU 0) (lA (nU 0) 14) (fA 15)) (lA (nU 0) 15)) (.node (nU 0) (.node (nU 0)
  (lA (nU 0) 14) (fA 15)) (lA (nU 0) 15))) (.node (nU 0) (.node (nU 0) (.node (nU 0) (lA (nU 0) 14) (fA 15)) (lA (nU 0) 15)) (.node (nU 0) (.node (nU 0) (lA (nU 0) 14) (fA 15)) (lA
  (nU 0) 15)))) (.node (nU 0) (.node (nU 0) (.node (nU 0) (.node (nU 0) (lA (nU 0) 14) (fA 15)) (lA (nU 0) 15)) (.node (nU 0) (.node (nU 0) (lA (nU 0) 14) (fA 15)) (lA (nU 0) 15)))
  (.node (nU 0) (.node (nU 0) (.node (nU 0) (lA (nU 0) 14) (fA 15)) (lA (nU 0) 15)) (.node (nU 0) (.node (nU 0) (lA (nU 0) 14) (fA 15)) (lA (nU 0) 15))))) (.node (nU 0) (.node (nU 0)
  (.node (nU 0) (.node (nU 0) (.node (nU 0) (lA (nU 0) 14) (fA 15)) (lA (nU 0) 15)) (.node (nU 0) (.node (nU 0) (lA (nU 0) 14) (fA 15)) (lA (nU 0) 15))) (.node (nU 0) (.node (nU 0)
  (.node (nU 0) (lA (nU 0) 14) (fA 15)) (lA (nU 0) 15)) (.node (nU 0) (.node (nU 0) (lA (nU 0) 14) (fA 15)) (lA (nU 0) 15)))) (.node (nU 0) (.node (nU 0) (.node (nU 0) (.node (nU 0)
  (lA (nU 0) 14) (fA 15)) (lA (nU 0) 15)) (.node (nU 0) (.node (nU 0) (lA (nU 0) 14) (fA 15)) (lA (nU 0) 15))) (.node (nU 0) (.node (nU 0) (.node (nU 0) (lA (nU 0) 14) (fA 15)) (lA
  (nU 0) 15)) (.node (nU 0) (.node (nU 0) (lA (nU 0) 14) (fA 15)) (lA (nU 0) 15)))))))) (.node (nU 2112) (.node (nU 0) (.node (nU 0) (.node (nU 0) (.node (nU 0) (.node (nU 0) (.node
  (nU 1) (.node (nU 3) (lA (nU 0) 14) (fA 15)) (lA (nU 0) 15)) (.node (nU 0) (.node (nU 0) (lA (nU 0) 14) (fA 15)) (lA (nU 0) 15))) (.node (nU 0) (.node (nU 1) (.node (nU
  5495893775785918464) (lA (nU 0) 14) (fA 15)) (lA (nU 0) 15)) (.node (nU 0) (.node (nU 0) (lA (nU 0) 14) (fA 15)) (lA (nU 0) 15)))) (.node (nU 0) (.node (nU 0) (.node (nU 1) (.node
  (nU 1) (lA (nU 0) 14) (fA 15)) (lA (nU 0) 15)) (.node (nU 0) (.node (nU 0) (lA (nU 0) 14) (fA 15)) (lA (nU 0) 15))) (.node (nU 0) (.node (nU 0) (.node (nU 0) (lA (nU 0) 14) (fA
  15)) (lA (nU 0) 15)) (.node (nU 0) (.node (nU 0) (lA (nU 0) 14) (fA 15)) (lA (nU 0) 15))))) (.node (nU 0) (.node (nU 0) (.node (nU 0) (.node (nU 1) (.node (nU 5495893775785918464)
  (lA (nU 0) 14) (fA 15)) (lA (nU 0) 15)) (.node (nU 0) (.node (nU 0) (lA (nU 0) 14) (fA 15)) (lA (nU 0) 15))) (.node (nU 0) (.node (nU 0) (.node (nU 3) (lA (nU 0) 14) (fA 15)) (lA
  (nU 0) 15)) (.node (nU 0) (.node (nU 0) (lA (nU 0) 14) (fA 15)) (lA (nU 0) 15)))) (.node (nU 0) (.node (nU 0) (.node (nU 1) (.node (nU 0) (lA (nU 0) 14) (fA 15)) (lA (nU 0) 15))
  (.node (nU 0) (.node (nU 0) (lA (nU 0) 14) (fA 15)) (lA (nU 0) 15))) (.node (nU 0) (.node (nU 0) (.node (nU 0) (lA (nU 0) 14) (fA 15)) (lA (nU 0) 15)) (.node (nU 0) (.node (nU 0)
  (lA (nU 0) 14) (fA 15)) (lA (nU 0) 15)))))) (.node (nU 0) (.node (nU 0) (.node (nU 0) (.node (nU 0) (.node (nU 0) (.node (nU 0) (lA (nU 0) 14) (fA 15)) (lA (nU 0) 15)) (.node (nU
  0) (.node (nU 0) (lA (nU 0) 14) (fA 15)) (lA (nU 0) 15))) (.node (nU 0) (.node (nU 0) (.node (nU 2304) (lA (nU 0) 14) (fA 15)) (lA (nU 0) 15)) (.node (nU 0) (.node (nU 0) (lA (nU
  0) 14) (fA 15)) (lA (nU 0) 15)))) (.node (nU 0) (.node (nU 0) (.node (nU 0) (.node (nU 0) (lA (nU 0) 14) (fA 15)) (lA (nU 0) 15)) (.node (nU 0) (.node (nU 0) (lA (nU 0) 14) (fA
  15)) (lA (nU 0) 15))) (.node (nU 0) (.node (nU 0) (.node (nU 0) (lA (nU 0) 14) (fA 15)) (lA (nU 0) 15)) (.node (nU 0) (.node (nU 0) (lA (nU 0) 14) (fA 15)) (lA (nU 0) 15)))))
  (.node (nU 0) (.node (nU 0) (.node (nU 0) (.node (nU 0) (.node (nU 2112) (lA (nU 0) 14) (fA 15)) (lA (nU 0) 15)) (.node (nU 0) (.node (nU 0) (lA (nU 0) 14) (fA 15)) (lA (nU 0)
  15))) (.node (nU 0) (.node (nU 0) (.node (nU 0) (lA (nU 0) 14) (fA 15)) (lA (nU 0) 15)) (.node (nU 0) (.node (nU 0) (lA (nU 0) 14) (fA 15)) (lA (nU 0) 15)))) (.node (nU 0) (.node
  (nU 0) (.node (nU 0) (.node (nU 0) (lA (nU 0) 14) (fA 15)) (lA (nU 0) 15)) (.node (nU 0) (.node (nU 0) (lA (nU 0) 14) (fA 15)) (lA (nU 0) 15))) (.node (nU 0) (.node (nU 0) (.node
  (nU 0) (lA (nU 0) 14) (fA 15)) (lA (nU 0) 15)) (.node (nU 0) (.node (nU 0) (lA (nU 0) 14) (fA 15)) (lA (nU 0) 15))))))) (.node (nU 0) (.node (nU 0) (.node (nU 0) (.node (nU 0)
  (.node (nU 0) (.node (nU 0) (.node (nU 0) (lA (nU 0) 14) (fA 15)) (lA (nU 0) 15)) (.node (nU 0) (.node (nU 0) (lA (nU 0) 14) (fA 15)) (lA (nU 0) 15))) (.node (nU 0) (.node (nU 0)
  (.node (nU 0) (lA (nU 0) 14) (fA 15)) (lA (nU 0) 15)) (.node (nU 0) (.node (nU 0) (lA (nU 0) 14) (fA 15)) (lA (nU 0) 15)))) (.node (nU 0) (.node (nU 0) (.node (nU 0) (.node (nU 2)
  (lA (nU 0) 14) (fA 15)) (lA (nU 0) 15)) (.node (nU 0) (.node (nU 0) (lA (nU 0) 14) (fA 15)) (lA (nU 0) 15))) (.node (nU 0) (.node (nU 0) (.node (nU 0) (lA (nU 0) 14) (fA 15)) (lA
  (nU 0) 15)) (.node (nU 0) (.node (nU 0) (lA (nU 0) 14) (fA 15)) (lA (nU 0) 15))))) (.node (nU 0) (.node (nU 0) (.node (nU 0) (.node (nU 0) (.node (nU 2304) (lA (nU 0) 14) (fA 15))
  (lA (nU 0) 15)) (.node (nU 0) (.node (nU 0) (lA (nU 0) 14) (fA 15)) (lA (nU 0) 15))) (.node (nU 0) (.node (nU 0) (.node (nU 4) (lA (nU 0) 14) (fA 15)) (lA (nU 0) 15)) (.node (nU 0)
  (.node (nU 0) (lA (nU 0) 14) (fA 15)) (lA (nU 0) 15)))) (.node (nU 0) (.node (nU 0) (.node (nU 0) (.node (nU 0) (lA (nU 0) 14) (fA 15)) (lA (nU 0) 15)) (.node (nU 0) (.node (nU 0)
  (lA (nU 0) 14) (fA 15)) (lA (nU 0) 15))) (.node (nU 0) (.node (nU 0) (.node (nU 0) (lA (nU 0) 14) (fA 15)) (lA (nU 0) 15)) (.node (nU 0) (.node (nU 0) (lA (nU 0) 14) (fA 15)) (lA
  (nU 0) 15)))))) (.node (nU 0) (.node (nU 0) (.node (nU 0) (.node (nU 0) (.node (nU 0) (.node (nU 0) (lA (nU 0) 14) (fA 15)) (lA (nU 0) 15)) (.node (nU 0) (.node (nU 0) (lA (nU 0)
  14) (fA 15)) (lA (nU 0) 15))) (.node (nU 0) (.node (nU 0) (.node (nU 0) (lA (nU 0) 14) (fA 15)) (lA (nU 0) 15)) (.node (nU 0) (.node (nU 0) (lA (nU 0) 14) (fA 15)) (lA (nU 0)
  15)))) (.node (nU 0) (.node (nU 0) (.node (nU 0) (.node (nU 0) (lA (nU 0) 14) (fA 15)) (lA (nU 0) 15)) (.node (nU 0) (.node (nU 0) (lA (nU 0) 14) (fA 15)) (lA (nU 0) 15))) (.node
  (nU 0) (.node (nU 0) (.node (nU 0) (lA (nU 0) 14) (fA 15)) (lA (nU 0) 15)) (.node (nU 0) (.node (nU 0) (lA (nU 0) 14) (fA 15)) (lA (nU 0) 15))))) (.node (nU 0) (.node (nU 0) (.node
  (nU 0) (.node (nU 0) (.node (nU 0) (lA (nU 0) 14) (fA 15)) (lA (nU 0) 15)) (.node (nU 0) (.node (nU 0) (lA (nU 0) 14) (fA 15)) (lA (nU 0) 15))) (.node (nU 0) (.node (nU 0) (.node
  (nU 0) (lA (nU 0) 14) (fA 15)) (lA (nU 0) 15)) (.node (nU 0) (.node (nU 0) (lA (nU 0) 14) (fA 15)) (lA (nU 0) 15)))) (.node (nU 0) (.node (nU 0) (.node (nU 0) (.node (nU 0) (lA (nU
  0) 14) (fA 15)) (lA (nU 0) 15)) (.node (nU 0) (.node (nU 0) (lA (nU 0) 14) (fA 15)) (lA (nU 0) 15))) (.node (nU 0) (.node (nU 0) (.node (nU 0) (lA (nU 0) 14) (fA 15)) (lA (nU 0)
  15)) (.node (nU 0) (.node (nU 0) (lA (nU 0) 14) (fA 15)) (lA (nU 0) 15))))))))) false false) 13) (fD 14))) (.node .dead (fD 15) (.node .dead (lD (.defd (some [])) 13) (fD 14))))
  (fD 17))))) (.node .dead (.node .dead (.node .dead (.node .dead (fD 17) (.node .dead (.node .dead (fD 15) (.node .dead (lD (.cells 25 1 1 (lA (nU 1) 23) true false) 13) (fD 14)))
  (fD 16))) (fD 18)) (fD 19)) (.node .dead (fD 19) (.node .dead (fD 18) (.node .dead (.node .dead (.node .dead (fD 15) (.node .dead (lD (.map [⟨(nU 1088), (nI 2), 0⟩, ⟨(nU 1152), (nI
  2), 1⟩, ⟨(nU 1216), (nI 2), 2⟩, ⟨(nU 1280), (nI 2), 3⟩] 4) 13) (fD 14))) (fD 16)) (fD 17)))))))), 1489⟩,
  [.code (codeAt Tryz.f45 [1, 1, 1, 1, 1, 0, 1, 0, 0, 0, 1]), .code (codeAt
  Tryz.f45 [1, 1, 1, 1, 1, 0, 1, 0, 0, 1]), .lp (codeAt Tryz.f45 [1, 1, 1, 1, 1, 0, 1, 0, 0]), .blk 2, .code (codeAt Tryz.f45 [1, 1, 1, 1, 1, 1])]⟩
set_option maxRecDepth 1000000 in
theorem part3 : cutR [0, 1, 2, 3, 4, 5, 18, 19, 37, 49, 52, 53, 1338, 1340, 1341, 1342, 1343, 1344, 1345, 1346, 1347, 1348, 1350, 1464, 1465, 1466, 1488] (iterN (stepF ctx) 19150 s2) = .inl s3 := by kernel_rfl
end Go.Proofs.YtelipbpnplcofaaGreat.parentNil
