/-
  PROVED HERE: parts of the run of the evaluator from the call of ParentNil, by the kernel.
  Conditions: none.
-/
import Derived.Test.YtelipbpnplcofaaGreatRows
import Derived.KernelRfl
import Derived.Test.YtelipbpnplcofaaGreatLevD
namespace Go.Proofs.YtelipbpnplcofaaGreat.parentNil
open Go.Lev
/-- the evaluator's tables -/
noncomputable def ctx : Ctx := ctxOf Tryz.prog
set_option maxRecDepth 1000000 in
theorem cloneFirst : (Tryz.f367.name == "runtime.NumGoroutine") = false := by kernel_rfl
set_option maxRecDepth 1000000 in
theorem cloneNext : Extern.findNext Tryz.f367 = none := by kernel_rfl
set_option maxRecDepth 1000000 in
theorem cloneFind : Extern.find Tryz.f367 = some Extern.MapsClone.clone := by kernel_rfl
/-- the evaluator's tables say what the program's say -/
theorem tables : CtxOk Tryz.prog ctx :=
  ctxOk_clone (n := 367) (by kernel_rfl) (by kernel_rfl) (by kernel_rfl) Tryz.func367 cloneFirst cloneNext cloneFind
/-- where the run stands at the end of part 1 -/
noncomputable def s1 : St :=
  ⟨⟨147, 31, [], .normal, none,
  [⟨44, 53, [⟨(.coll 57), []⟩], .normal, none, .run, (.node (.sl 18 0 0 5120 (.k 5120)) (.node undefV (.node (nI 0) (.node undefV (lU (.sl 18 0 0 5120
  (.k 5120)) 19) (fU 20)) (lU (.bool false) 20)) (.node undefV (lU (nI 5120) 20) (lU (.agg [.nilsl, .nilsl, (.map 52), (nU 0), (nU 0), (nU 0), (nU 0)]) 20))) (.node .nil (.node (.ptr
  54 0) (.node (.sl 18 0 0 5120 (.k 5120)) (lU (.fn (.func 147) [] [(.ptr 55 0), (.ptr 56 0)]) 19) (fU 20)) (lU (.map 52) 20)) (.node undefV (lU (.bool true) 20) (lU (.ptr 53 0)
  20)))), [.rf 58, .blk 0, .code (codeAt Tryz.f44 [1, 1, 1, 1])]⟩,
    ⟨13, 37, [], .normal, none, .run, (.node (.sl 18 0 0 5120 (.k 5120)) (lU (nI 1) 22) (.node undefV (.node .nil
  (fU 21) (lU (.sl 18 0 0 5120 (.k 5120)) 20)) (fU 22))), [.reg (opsAt Tryz.f13 [1, 0]) ((opsAt Tryz.f13 [1, 0]).toList.drop 1), .code (codeAt Tryz.f13 [1, 1])]⟩,
    ⟨37, 70, [],
  .normal, none, .run, (.node (.agg [(nI 4), (.sl 3 0 0 4 (.k 4)), (nI 2), (nI 9), (nI 0), (nI 0)]) (.node (nI 1) (.node undefV (.node (nI 0) (.node (.bool false) (lU (.sl 49 0 0 1
  (.u 49 0)) 18) (lU (nI 0) 18)) (.node (.sl 49 0 0 1 (.u 49 0)) (lU (.ptr 4 5) 18) (fU 19))) (.node (.ptr 4 0) (.node (nU 0) (lU (.sl 37 0 0 2 (.u 37 0)) 18) (lU (.ptr 19 0) 18))
  (.node (nI 0) (lU (nI 2) 18) (fU 19)))) (.node (.ptr 5 0) (.node (nI 1) (.node (.ptr 4 4) (lU (.ptr 49 0) 18) (lU (.ptr 19 0) 18)) (.node (nU 1) (lU (nU 0) 18) (fU 19))) (.node
  (.ptr 19 0) (.node (.ptr 19 0) (lU (.bool false) 18) (lU (nI 1) 18)) (.node (.ptr 19 0) (lU (nU 1) 18) (fU 19))))) (.node (.ptr 4 0) (.node .nil (.node (.sl 37 0 0 2 (.u 37 0))
  (.node undefV (lU (nI 0) 18) (lU (nI 1) 18)) (.node (nI 1) (lU (nI 0) 18) (fU 19))) (.node (.agg [(nI 4), (.sl 3 0 0 4 (.k 4)), (nI 2), (nI 9)]) (.node (.ptr 19 0) (lU (nI 2) 18)
  (lU (.sl 18 0 0 5120 (.k 5120)) 18)) (.node (.ptr 19 0) (lU (nI 1) 18) (fU 19)))) (.node (.ptr 19 0) (.node undefV (.node (nI 0) (lU (.sl 37 0 0 2 (.u 37 0)) 18) (lU (.ptr 19 0)
  18)) (.node (nU 0) (lU (.sl 37 0 0 2 (.u 37 0)) 18) (fU 19))) (.node (.ptr 19 0) (lU (.ptr 19 7) 19) (.node (.ptr 19 7) (lU (nU 0) 18) (fU 19)))))), [.reg (opsAt Tryz.f37 [1, 1, 1,
  1, 1, 1, 1, 0]) ((opsAt Tryz.f37 [1, 1, 1, 1, 1, 1, 1, 0]).toList.drop 5), .code (codeAt Tryz.f37 [1, 1, 1, 1, 1, 1, 1, 1])]⟩,
    ⟨11, 59, [], .normal, none, .run, (.node (.bool
  false) (.node undefV (.node undefV (fU 21) (lU (.agg [(nI 4), (.sl 3 0 0 4 (.k 4)), (nI 2), (nI 9), (nI 0), (nI 0)]) 20)) (.node undefV (lU (.sl 3 0 0 4 (.k 4)) 20) (fU 21)))
  (.node undefV (fU 22) (.node undefV (lU (.agg [(nI 4), (.sl 3 0 0 4 (.k 4)), (nI 2), (nI 9)]) 20) (fU 21)))), [.reg (opsAt Tryz.f11 [1, 0]) ((opsAt Tryz.f11 [1, 0]).toList.drop 3),
  .code (codeAt Tryz.f11 [1, 1])]⟩,
    ⟨3, 54, [], .normal, none, .run, (.node (.bool false) (.node .nil (.node (.bool true) (.node (.bool true) (.node (.tup [(.bool true), (nI 1)])
  (lU (.bool true) 18) (lU (.bool true) 18)) (.node (.bool true) (lU (nI 1) 18) (fU 19))) (.node (.tup [(.bool true), (nI 1)]) (.node (.ptr 2 0) (lU (.bool true) 18) (lU (.bool true)
  18)) (.node (.bool true) (lU .nil 18) (fU 19)))) (.node (.bool true) (.node (.tup [(.bool true), (nI 1)]) (.node (nI 1) (lU (.bool true) 18) (lU (.bool true) 18)) (.node (nI 1) (lU
  (.bool true) 18) (fU 19))) (.node (nI 1) (.node (.bool true) (lU (.bool true) 18) (fU 19)) (.node (.bool true) (lU (.bool true) 18) (fU 19))))) (.node (.ptr 0 0) (.node (nI 1)
  (.node (nI 1) (.node (.bool true) (lU (nI 1) 18) (lU (.bool false) 18)) (.node (.bool true) (lU (.bool true) 18) (fU 19))) (.node (.bool true) (.node (.tup [(.bool true), (nI 1)])
  (lU (.bool true) 18) (fU 19)) (.node (.bool true) (lU (.bool false) 18) (fU 19)))) (.node (nI 1) (.node .nil (.node (.tup [(.bool true), (nI 1)]) (lU (.bool true) 18) (lU (.bool
  true) 18)) (.node (.bool true) (lU (.bool true) 18) (fU 19))) (.node (.tup [(.bool true), (nI 1)]) (.node (nI 1) (lU (.bool true) 18) (fU 19)) (.node (.bool true) (lU (.bool true)
  18) (fU 19)))))), [.reg (opsAt Tryz.f3 [1, 1, 1, 1, 1, 1, 0]) ((opsAt Tryz.f3 [1, 1, 1, 1, 1, 1, 0]).toList.drop 29), .code (codeAt Tryz.f3 [1, 1, 1, 1, 1, 1, 1])]⟩]⟩,
  .run,
 
  (.node (.yld 58) (.node (.ptr 55 0) (.node undefV (.node (.sl 18 0 0 5120 (.k 5120)) (lU (nI 1600) 19) (lU (nI 8) 19)) (.node (nI 8) (lU (.yld 58) 19) (lU (nI 1600) 19))) (.node
  (nI 8) (.node (.bool true) (lU (nI 3520) 19) (lU (nI 1592) 19)) (.node (nI 8) (lU (nI 1592) 19) (lU (.bool true) 19)))) (.node (.ptr 56 0) (.node (nI 1600) (.node (nI 5120) (lU
  (.sl 18 1600 0 3520 (.k 3520)) 19) (lU (nI 1600) 19)) (.node (nI 1600) (lU (.sl 18 0 0 5120 (.k 5120)) 19) (lU (.sl 18 1592 0 8 (.k 8)) 19))) (.node (nI 1600) (.node (nI 1592) (lU
  (nI 8) 19) (lU (nI 8) 19)) (.node (.sl 18 0 0 5120 (.k 5120)) (lU (nI 1592) 19) (lU (.bool false) 19))))),
  ⟨(.node (.cells 37 16 16 (.node .nil (.node (nI 0) (.node (nI 0) (.node
  .nil (lA (nI 0) 19) (fA 20)) (lA .nilif 20)) (.node (nU 0) (lA (nU 0) 20) (lA (.bool false) 20))) (.node .nilsl (.node (nU 0) (lA .nil 20) (lA .nilfn 20)) (.node .nil (lA (nU 0)
  20) (lA (.bool false) 20)))) true false) (.node (.cells 28 3 3 (.node (nI 1) (lA (nU 1) 22) (lA (nU 1088) 22)) true false) (.node (.cells 25 1 4 (.node (nU 1) (.node (nU 2) (lA (nU
  4) 21) (fA 22)) (lA (nU 3) 22)) true false) (.node .dead (fD 20) (.node .dead (fD 19) (lD (.cells 47 1 1 (lA (.sl 18 0 0 5120 (.k 5120)) 23) true false) 18))) (.node .dead (lD
  (.cells 50 8 8 (.node (.sl 18 0 0 5120 (.k 5120)) (.node (nI 4) (.node (nI 1) (lA (.sl 49 0 0 1 (.u 49 0)) 20) (fA 21)) (lA (nI 2) 21)) (.node (nI 2) (lA (nI 4) 21) (lA (nI 2)
  21))) true false) 19) (fD 20))) (.node (.cells 99 3 3 (.node (nI 0) (lA (nU 0) 22) (lA (nU 0) 22)) true false) (.node .dead (.node .dead (fD 19) (lD (.cells 170 1 1 (lA (.sl 37 0 0
  2 (.u 37 0)) 23) false false) 18)) (.node .dead (fD 19) (lD (.defd (some [])) 18))) (.node .dead (.node .dead (lD (.cells 176 22 44 (.node (nU 2112) (.node (nI 0) (.node (nU 2304)
  (.node (nU 2) (.node (nU 1152) (lA (nU 0) 18) (fA 19)) (.node (nI 0) (lA (nU 0) 18) (fA 19))) (.node (nU 0) (.node (nU 0) (lA (nU 0) 18) (fA 19)) (.node (nU 2304) (lA (nU 0) 18)
  (fA 19)))) (.node (nU 2112) (.node (nU 0) (.node (nU 0) (lA (nU 0) 18) (fA 19)) (.node (nU 0) (lA (nU 0) 18) (fA 19))) (.node (nU 0) (.node (nU 0) (lA (nU 1280) 18) (fA 19)) (lA
  (nU 4) 19)))) (.node (nU 0) (.node (nU 0) (.node (nU 0) (.node (nU 0) (lA (nU 0) 18) (fA 19)) (.node (nU 3) (lA (nU 0) 18) (fA 19))) (.node (nU 0) (.node (nU 0) (lA (nU 1216) 18)
  (fA 19)) (lA (nU 3) 19))) (.node (nU 1) (.node (nU 0) (.node (nU 0) (lA (nU 0) 18) (fA 19)) (.node (nU 0) (lA (nU 0) 18) (fA 19))) (.node (nU 1088) (.node (nU 2304) (lA (nU 0) 18)
  (fA 19)) (lA (nU 0) 19))))) false false) 18) (lD (.cells 128 7 7 (.node .nilsl (.node (.sl 458 0 0 200 (.u 458 0)) (lA (nU 0) 21) (lA (nU 0) 21)) (.node (.map 52) (lA (nU 0) 21)
  (lA (nU 0) 21))) true false) 18)) (fD 20)))) (.node (.cells 37 16 16 (.node .nil (.node (nI 0) (.node (nI 0) (.node .nil (lA (nI 1) 19) (fA 20)) (lA .nilif 20)) (.node (nU 0) (lA
  (nU 0) 20) (lA (.bool false) 20))) (.node (.sl 1 0 0 1 (.k 1)) (.node (nU 0) (lA .nil 20) (lA (.fn (.func 36) [(.ptr 2 0)] []) 20)) (.node .nil (lA (nU 0) 20) (lA (.bool true)
  20)))) true false) (.node (.cells 103 6 6 (.node (nI 4) (.node (.sl 3 0 0 4 (.k 4)) (lA (nI 9) 21) (lA (nI 0) 21)) (.node (nI 2) (lA (nI 0) 21) (fA 22))) true false) (.node .dead
  (fD 20) (.node .dead (fD 19) (lD (.cells 3 1 1 (lA (nI 8) 23) true false) 18))) (.node .dead (.node .dead (fD 19) (lD (.map [] 0) 18)) (fD 20))) (.node .dead (.node .dead (lD
  (.cells 5 1 5120 (.node (nB 70) (.node (nB 65) (.node (nB 84) (.node (nB 82) (.node (nB 0) (.node (nB 255) (.node (nB 0) (.node (nB 0) (.node (nB 0) (fB 15) (.node (nB 0) (lB (nB
  0) 13) (fB 14))) (.node (nB 0) (.node (nB 0) (lB (nB 0) 13) (fB 14)) (.node (nB 0) (lB (nB 0) 13) (fB 14)))) (.node (nB 0) (.node (nB 0) (fB 15) (.node (nB 0) (lB (nB 0) 13) (fB
  14))) (.node (nB 0) (.node (nB 0) (lB (nB 0) 13) (fB 14)) (.node (nB 0) (lB (nB 0) 13) (fB 14))))) (.node (nB 0) (.node (nB 0) (.node (nB 0) (fB 15) (.node (nB 0) (lB (nB 0) 13)
  (fB 14))) (.node (nB 0) (.node (nB 0) (lB (nB 0) 13) (fB 14)) (.node (nB 0) (lB (nB 0) 13) (fB 14)))) (.node (nB 0) (.node (nB 0) (.node (nB 0) (lB (nB 0) 13) (fB 14)) (.node (nB
  0) (lB (nB 0) 13) (fB 14))) (.node (nB 0) (.node (nB 0) (lB (nB 0) 13) (fB 14)) (fB 15))))) (.node (nB 0) (.node (nB 0) (.node (nB 0) (.node (nB 0) (.node (nB 0) (lB (nB 0) 13) (fB
  14)) (.node (nB 0) (lB (nB 0) 13) (fB 14))) (.node (nB 0) (.node (nB 0) (lB (nB 0) 13) (fB 14)) (.node (nB 0) (lB (nB 0) 13) (fB 14)))) (.node (nB 0) (.node (nB 0) (.node (nB 0)
  (lB (nB 0) 13) (fB 14)) (.node (nB 0) (lB (nB 0) 13) (fB 14))) (.node (nB 0) (.node (nB 0) (lB (nB 0) 13) (fB 14)) (fB 15)))) (.node (nB 0) (.node (nB 0) (.node (nB 0) (fB 15)
  (.node (nB 0) (lB (nB 0) 13) (fB 14))) (.node (nB 0) (.node (nB 0) (lB (nB 0) 13) (fB 14)) (.node (nB 0) (lB (nB 0) 13) (fB 14)))) (.node (nB 0) (.node (nB 0) (.node (nB 0) (lB (nB
  0) 13) (fB 14)) (.node (nB 0) (lB (nB 0) 13) (fB 14))) (.node (nB 0) (.node (nB 0) (lB (nB 0) 13) (fB 14)) (fB 15)))))) (.node (nB 0) (.node (nB 0) (.node (nB 0) (.node (nB 0)
  (.node (nB 0) (.node (nB 0) (lB (nB 0) 13) (fB 14)) (.node (nB 0) (.node (nB 0) (lB (nB 76) 12) (fB 13)) (fB 14))) (.node (nB 0) (.node (nB 0) (lB (nB 0) 13) (fB 14)) (.node (nB 0)
  (lB (nB 0) 13) (fB 14)))) (.node (nB 0) (.node (nB 0) (.node (nB 0) (.node (nB 0) (lB (nB 76) 12) (fB 13)) (fB 14)) (.node (nB 0) (lB (nB 0) 13) (fB 14))) (.node (nB 0) (.node (nB
  0) (lB (nB 0) 13) (fB 14)) (fB 15)))) (.node (nB 0) (.node (nB 0) (.node (nB 0) (fB 15) (.node (nB 0) (lB (nB 0) 13) (fB 14))) (.node (nB 0) (.node (nB 0) (lB (nB 0) 13) (fB 14))
  (.node (nB 0) (lB (nB 0) 13) (fB 14)))) (.node (nB 0) (.node (nB 0) (.node (nB 0) (lB (nB 0) 13) (fB 14)) (.node (nB 0) (lB (nB 0) 13) (fB 14))) (.node (nB 0) (.node (nB 0) (lB (nB
  0) 13) (fB 14)) (fB 15))))) (.node (nB 0) (.node (nB 0) (.node (nB 0) (.node (nB 0) (fB 15) (.node (nB 0) (lB (nB 0) 13) (fB 14))) (.node (nB 0) (.node (nB 0) (lB (nB 0) 13) (fB
  14)) (.node (nB 0) (lB (nB 0) 13) (fB 14)))) (.node (nB 0) (.node (nB 0) (.node (nB 0) (lB (nB 0) 13) (fB 14)) (.node (nB 0) (lB (nB 0) 13) (fB 14))) (.node (nB 0) (.node (nB 0)
  (lB (nB 0) 13) (fB 14)) (fB 15)))) (.node (nB 0) (.node (nB 0) (.node (nB 0) (fB 15) (.node (nB 0) (lB (nB 0) 13) (fB 14))) (.node (nB 0) (.node (nB 0) (lB (nB 0) 13) (fB 14))
  (.node (nB 0) (lB (nB 0) 13) (fB 14)))) (.node (nB 0) (.node (nB 0) (.node (nB 0) (lB (nB 0) 13) (fB 14)) (.node (nB 0) (lB (nB 0) 13) (fB 14))) (.node (nB 0) (.node (nB 0) (lB (nB
  0) 13) (fB 14)) (fB 15))))))) (.node (nB 0) (.node (nB 0) (.node (nB 0) (.node (nB 0) (.node (nB 0) (.node (nB 0) (.node (nB 0) (lB (nB 0) 13) (fB 14)) (.node (nB 0) (.node (nB 0)
  (lB (nB 69) 12) (fB 13)) (fB 14))) (.node (nB 0) (.node (nB 0) (lB (nB 0) 13) (fB 14)) (.node (nB 0) (lB (nB 0) 13) (fB 14)))) (.node (nB 0) (.node (nB 0) (.node (nB 0) (.node (nB
  0) (lB (nB 69) 12) (fB 13)) (fB 14)) (.node (nB 0) (lB (nB 0) 13) (fB 14))) (.node (nB 0) (.node (nB 0) (lB (nB 0) 13) (fB 14)) (fB 15)))) (.node (nB 0) (.node (nB 0) (.node (nB 0)
  (fB 15) (.node (nB 0) (lB (nB 0) 13) (fB 14))) (.node (nB 0) (.node (nB 0) (lB (nB 0) 13) (fB 14)) (.node (nB 0) (lB (nB 0) 13) (fB 14)))) (.node (nB 0) (.node (nB 0) (.node (nB 0)
  (lB (nB 0) 13) (fB 14)) (.node (nB 0) (lB (nB 0) 13) (fB 14))) (.node (nB 0) (.node (nB 0) (lB (nB 0) 13) (fB 14)) (fB 15))))) (.node (nB 0) (.node (nB 0) (.node (nB 0) (.node (nB
  0) (fB 15) (.node (nB 0) (lB (nB 0) 13) (fB 14))) (.node (nB 0) (.node (nB 0) (lB (nB 0) 13) (fB 14)) (.node (nB 0) (lB (nB 0) 13) (fB 14)))) (.node (nB 0) (.node (nB 0) (.node (nB
  0) (lB (nB 0) 13) (fB 14)) (.node (nB 0) (lB (nB 0) 13) (fB 14))) (.node (nB 0) (.node (nB 0) (lB (nB 0) 13) (fB 14)) (fB 15)))) (.node (nB 0) (.node (nB 0) (.node (nB 0) (fB 15)
  (.node (nB 0) (lB (nB 0) 13) (fB 14))) (.node (nB 0) (.node (nB 0) (lB (nB 0) 13) (fB 14)) (.node (nB 0) (lB (nB 0) 13) (fB 14)))) (.node (nB 0) (.node (nB 0) (.node (nB 0) (lB (nB
  0) 13) (fB 14)) (.node (nB 0) (lB (nB 0) 13) (fB 14))) (.node (nB 0) (.node (nB 0) (lB (nB 0) 13) (fB 14)) (fB 15)))))) (.node (nB 255) (.node (nB 0) (.node (nB 0) (.node (nB 0)
  (.node (nB 0) (.node (nB 0) (lB (nB 0) 13) (fB 14)) (.node (nB 0) (lB (nB 0) 13) (fB 14))) (.node (nB 0) (.node (nB 0) (lB (nB 0) 13) (fB 14)) (.node (nB 0) (lB (nB 0) 13) (fB
  14)))) (.node (nB 0) (.node (nB 0) (.node (nB 0) (lB (nB 0) 13) (fB 14)) (.node (nB 0) (lB (nB 0) 13) (fB 14))) (.node (nB 0) (.node (nB 0) (lB (nB 0) 13) (fB 14)) (fB 15))))
  (.node (nB 0) (.node (nB 0) (.node (nB 0) (fB 15) (.node (nB 0) (lB (nB 0) 13) (fB 14))) (.node (nB 0) (.node (nB 0) (lB (nB 0) 13) (fB 14)) (.node (nB 0) (lB (nB 0) 13) (fB 14))))
  (.node (nB 0) (.node (nB 0) (.node (nB 0) (lB (nB 0) 13) (fB 14)) (.node (nB 0) (lB (nB 0) 13) (fB 14))) (.node (nB 0) (.node (nB 0) (lB (nB 0) 13) (fB 14)) (fB 15))))) (.node (nB
  0) (.node (nB 0) (.node (nB 0) (.node (nB 0) (fB 15) (.node (nB 0) (lB (nB 0) 13) (fB 14))) (.node (nB 0) (.node (nB 0) (lB (nB 0) 13) (fB 14)) (.node (nB 0) (lB (nB 0) 13) (fB
  14)))) (.node (nB 0) (.node (nB 0) (.node (nB 0) (lB (nB 0) 13) (fB 14)) (.node (nB 0) (lB (nB 0) 13) (fB 14))) (.node (nB 0) (.node (nB 0) (lB (nB 0) 13) (fB 14)) (fB 15))))
  (.node (nB 0) (.node (nB 0) (.node (nB 0) (fB 15) (.node (nB 0) (lB (nB 0) 13) (fB 14))) (.node (nB 0) (.node (nB 0) (lB (nB 0) 13) (fB 14)) (.node (nB 0) (lB (nB 0) 13) (fB 14))))
  (.node (nB 0) (.node (nB 0) (.node (nB 0) (lB (nB 0) 13) (fB 14)) (.node (nB 0) (lB (nB 0) 13) (fB 14))) (.node (nB 0) (.node (nB 0) (lB (nB 0) 13) (fB 14)) (fB 15)))))))) (.node
  (nB 65) (.node (nB 20) (.node (nB 8) (.node (nB 0) (.node (nB 0) (.node (nB 0) (.node (nB 0) (.node (nB 0) (lB (nB 0) 13) (fB 14)) (.node (nB 0) (lB (nB 0) 13) (fB 14))) (.node (nB
  0) (.node (nB 0) (lB (nB 0) 13) (fB 14)) (.node (nB 0) (lB (nB 0) 13) (fB 14)))) (.node (nB 0) (.node (nB 0) (.node (nB 0) (lB (nB 0) 13) (fB 14)) (.node (nB 0) (lB (nB 0) 13) (fB
  14))) (.node (nB 0) (.node (nB 0) (lB (nB 0) 13) (fB 14)) (fB 15)))) (.node (nB 0) (.node (nB 0) (.node (nB 0) (fB 15) (.node (nB 0) (.node (nB 0) (lB (nB 9) 12) (fB 13)) (fB 14)))
  (.node (nB 0) (.node (nB 0) (lB (nB 0) 13) (fB 14)) (.node (nB 0) (lB (nB 0) 13) (fB 14)))) (.node (nB 0) (.node (nB 0) (.node (nB 0) (.node (nB 0) (lB (nB 8) 12) (fB 13)) (fB 14))
  (.node (nB 0) (lB (nB 0) 13) (fB 14))) (.node (nB 0) (.node (nB 0) (lB (nB 0) 13) (fB 14)) (fB 15))))) (.node (nB 0) (.node (nB 0) (.node (nB 0) (.node (nB 0) (fB 15) (.node (nB 0)
  (lB (nB 0) 13) (fB 14))) (.node (nB 0) (.node (nB 0) (lB (nB 0) 13) (fB 14)) (.node (nB 0) (lB (nB 0) 13) (fB 14)))) (.node (nB 0) (.node (nB 0) (.node (nB 0) (.node (nB 0) (lB (nB
  9) 12) (fB 13)) (fB 14)) (.node (nB 0) (lB (nB 0) 13) (fB 14))) (.node (nB 0) (.node (nB 0) (lB (nB 0) 13) (fB 14)) (fB 15)))) (.node (nB 0) (.node (nB 0) (.node (nB 0) (fB 15)
  (.node (nB 0) (lB (nB 0) 13) (fB 14))) (.node (nB 0) (.node (nB 0) (lB (nB 0) 13) (fB 14)) (.node (nB 0) (lB (nB 0) 13) (fB 14)))) (.node (nB 0) (.node (nB 0) (.node (nB 0) (lB (nB
  0) 13) (fB 14)) (.node (nB 0) (lB (nB 0) 13) (fB 14))) (.node (nB 0) (.node (nB 0) (lB (nB 0) 13) (fB 14)) (fB 15)))))) (.node (nB 235) (.node (nB 0) (.node (nB 0) (.node (nB 0)
  (.node (nB 0) (.node (nB 0) (lB (nB 0) 13) (fB 14)) (.node (nB 0) (lB (nB 0) 13) (fB 14))) (.node (nB 0) (.node (nB 0) (.node (nB 0) (lB (nB 4) 12) (fB 13)) (fB 14)) (.node (nB 0)
  (lB (nB 0) 13) (fB 14)))) (.node (nB 0) (.node (nB 0) (.node (nB 0) (lB (nB 0) 13) (fB 14)) (.node (nB 0) (.node (nB 0) (lB (nB 4) 12) (fB 13)) (fB 14))) (.node (nB 0) (.node (nB
  0) (lB (nB 0) 13) (fB 14)) (fB 15)))) (.node (nB 0) (.node (nB 0) (.node (nB 0) (fB 15) (.node (nB 0) (lB (nB 0) 13) (fB 14))) (.node (nB 0) (.node (nB 0) (lB (nB 0) 13) (fB 14))
  (.node (nB 0) (lB (nB 0) 13) (fB 14)))) (.node (nB 0) (.node (nB 0) (.node (nB 0) (lB (nB 0) 13) (fB 14)) (.node (nB 0) (lB (nB 0) 13) (fB 14))) (.node (nB 0) (.node (nB 0) (lB (nB
  0) 13) (fB 14)) (fB 15))))) (.node (nB 0) (.node (nB 0) (.node (nB 0) (.node (nB 0) (fB 15) (.node (nB 0) (lB (nB 0) 13) (fB 14))) (.node (nB 0) (.node (nB 0) (.node (nB 0) (lB (nB
  4) 12) (fB 13)) (fB 14)) (.node (nB 0) (lB (nB 0) 13) (fB 14)))) (.node (nB 0) (.node (nB 0) (.node (nB 0) (lB (nB 0) 13) (fB 14)) (.node (nB 0) (.node (nB 0) (lB (nB 5) 12) (fB
  13)) (fB 14))) (.node (nB 0) (.node (nB 0) (lB (nB 0) 13) (fB 14)) (fB 15)))) (.node (nB 0) (.node (nB 0) (.node (nB 0) (fB 15) (.node (nB 0) (lB (nB 0) 13) (fB 14))) (.node (nB 0)
  (.node (nB 0) (lB (nB 0) 13) (fB 14)) (.node (nB 0) (lB (nB 0) 13) (fB 14)))) (.node (nB 0) (.node (nB 0) (.node (nB 0) (lB (nB 0) 13) (fB 14)) (.node (nB 0) (lB (nB 0) 13) (fB
  14))) (.node (nB 0) (.node (nB 0) (lB (nB 0) 13) (fB 14)) (fB 15))))))) (.node (nB 0) (.node (nB 0) (.node (nB 0) (.node (nB 0) (.node (nB 0) (.node (nB 0) (.node (nB 0) (lB (nB 0)
  13) (fB 14)) (.node (nB 0) (.node (nB 0) (lB (nB 86) 12) (fB 13)) (fB 14))) (.node (nB 0) (.node (nB 0) (lB (nB 0) 13) (fB 14)) (.node (nB 0) (lB (nB 0) 13) (fB 14)))) (.node (nB
  0) (.node (nB 0) (.node (nB 0) (.node (nB 0) (lB (nB 86) 12) (fB 13)) (fB 14)) (.node (nB 0) (lB (nB 0) 13) (fB 14))) (.node (nB 0) (.node (nB 0) (lB (nB 0) 13) (fB 14)) (fB 15))))
  (.node (nB 0) (.node (nB 0) (.node (nB 0) (fB 15) (.node (nB 0) (lB (nB 0) 13) (fB 14))) (.node (nB 0) (.node (nB 0) (lB (nB 0) 13) (fB 14)) (.node (nB 0) (lB (nB 0) 13) (fB 14))))
  (.node (nB 0) (.node (nB 0) (.node (nB 0) (lB (nB 0) 13) (fB 14)) (.node (nB 0) (lB (nB 0) 13) (fB 14))) (.node (nB 0) (.node (nB 0) (lB (nB 0) 13) (fB 14)) (fB 15))))) (.node (nB
  0) (.node (nB 0) (.node (nB 0) (.node (nB 0) (fB 15) (.node (nB 0) (lB (nB 0) 13) (fB 14))) (.node (nB 0) (.node (nB 0) (lB (nB 0) 13) (fB 14)) (.node (nB 0) (lB (nB 0) 13) (fB
  14)))) (.node (nB 0) (.node (nB 0) (.node (nB 0) (lB (nB 0) 13) (fB 14)) (.node (nB 0) (lB (nB 0) 13) (fB 14))) (.node (nB 0) (.node (nB 0) (lB (nB 0) 13) (fB 14)) (fB 15))))
  (.node (nB 0) (.node (nB 0) (.node (nB 0) (fB 15) (.node (nB 0) (lB (nB 0) 13) (fB 14))) (.node (nB 0) (.node (nB 0) (lB (nB 0) 13) (fB 14)) (.node (nB 0) (lB (nB 0) 13) (fB 14))))
  (.node (nB 0) (.node (nB 0) (.node (nB 0) (lB (nB 0) 13) (fB 14)) (.node (nB 0) (lB (nB 0) 13) (fB 14))) (.node (nB 0) (.node (nB 0) (lB (nB 0) 13) (fB 14)) (fB 15)))))) (.node (nB
  255) (.node (nB 0) (.node (nB 0) (.node (nB 0) (.node (nB 0) (.node (nB 0) (lB (nB 0) 13) (fB 14)) (.node (nB 0) (lB (nB 0) 13) (fB 14))) (.node (nB 0) (.node (nB 0) (lB (nB 0) 13)
  (fB 14)) (.node (nB 0) (lB (nB 0) 13) (fB 14)))) (.node (nB 0) (.node (nB 0) (.node (nB 0) (lB (nB 0) 13) (fB 14)) (.node (nB 0) (lB (nB 0) 13) (fB 14))) (.node (nB 0) (.node (nB
  0) (lB (nB 0) 13) (fB 14)) (fB 15)))) (.node (nB 0) (.node (nB 0) (.node (nB 0) (fB 15) (.node (nB 0) (lB (nB 0) 13) (fB 14))) (.node (nB 0) (.node (nB 0) (lB (nB 0) 13) (fB 14))
  (.node (nB 0) (lB (nB 0) 13) (fB 14)))) (.node (nB 0) (.node (nB 0) (.node (nB 0) (lB (nB 0) 13) (fB 14)) (.node (nB 0) (lB (nB 0) 13) (fB 14))) (.node (nB 0) (.node (nB 0) (lB (nB
  0) 13) (fB 14)) (fB 15))))) (.node (nB 0) (.node (nB 0) (.node (nB 0) (.node (nB 0) (fB 15) (.node (nB 0) (lB (nB 0) 13) (fB 14))) (.node (nB 0) (.node (nB 0) (lB (nB 0) 13) (fB
  14)) (.node (nB 0) (lB (nB 0) 13) (fB 14)))) (.node (nB 0) (.node (nB 0) (.node (nB 0) (lB (nB 0) 13) (fB 14)) (.node (nB 0) (lB (nB 0) 13) (fB 14))) (.node (nB 0) (.node (nB 0)
  (lB (nB 0) 13) (fB 14)) (fB 15)))) (.node (nB 0) (.node (nB 0) (.node (nB 0) (fB 15) (.node (nB 0) (lB (nB 0) 13) (fB 14))) (.node (nB 0) (.node (nB 0) (lB (nB 0) 13) (fB 14))
  (.node (nB 0) (lB (nB 0) 13) (fB 14)))) (.node (nB 0) (.node (nB 0) (.node (nB 0) (lB (nB 0) 13) (fB 14)) (.node (nB 0) (lB (nB 0) 13) (fB 14))) (.node (nB 0) (.node (nB 0) (lB (nB
  0) 13) (fB 14)) (fB 15))))))))) (.node (nB 83) (.node (nB 70) (.node (nB 0) (.node (nB 64) (.node (nB 0) (.node (nB 0) (.node (nB 0) (.node (nB 0) (.node (nB 0) (.node (nB 1) (lB
  (nB 3) 12) (fB 13)) (fB 14)) (.node (nB 0) (lB (nB 1) 13) (fB 14))) (.node (nB 0) (.node (nB 0) (.node (nB 1) (lB (nB 1) 12) (fB 13)) (fB 14)) (.node (nB 0) (lB (nB 0) 13) (fB
  14)))) (.node (nB 0) (.node (nB 0) (.node (nB 0) (lB (nB 1) 13) (fB 14)) (.node (nB 0) (.node (nB 0) (lB (nB 3) 12) (fB 13)) (fB 14))) (.node (nB 0) (.node (nB 0) (lB (nB 1) 13)
  (fB 14)) (fB 15)))) (.node (nB 0) (.node (nB 0) (.node (nB 0) (fB 15) (.node (nB 0) (lB (nB 0) 13) (fB 14))) (.node (nB 0) (.node (nB 0) (lB (nB 0) 13) (fB 14)) (.node (nB 0) (lB
  (nB 0) 13) (fB 14)))) (.node (nB 0) (.node (nB 0) (.node (nB 0) (.node (nB 0) (lB (nB 64) 12) (fB 13)) (fB 14)) (.node (nB 0) (lB (nB 0) 13) (fB 14))) (.node (nB 0) (.node (nB 0)
  (lB (nB 0) 13) (fB 14)) (fB 15))))) (.node (nB 0) (.node (nB 0) (.node (nB 0) (.node (nB 0) (fB 15) (.node (nB 0) (lB (nB 0) 13) (fB 14))) (.node (nB 0) (.node (nB 0) (.node (nB 0)
  (lB (nB 2) 12) (fB 13)) (fB 14)) (.node (nB 0) (lB (nB 0) 13) (fB 14)))) (.node (nB 0) (.node (nB 0) (.node (nB 0) (lB (nB 0) 13) (fB 14)) (.node (nB 0) (.node (nB 0) (lB (nB 4)
  12) (fB 13)) (fB 14))) (.node (nB 0) (.node (nB 0) (lB (nB 0) 13) (fB 14)) (fB 15)))) (.node (nB 0) (.node (nB 0) (.node (nB 0) (fB 15) (.node (nB 0) (lB (nB 0) 13) (fB 14)))
  (.node (nB 0) (.node (nB 0) (lB (nB 0) 13) (fB 14)) (.node (nB 0) (lB (nB 0) 13) (fB 14)))) (.node (nB 0) (.node (nB 0) (.node (nB 0) (lB (nB 0) 13) (fB 14)) (.node (nB 0) (lB (nB
  0) 13) (fB 14))) (.node (nB 0) (.node (nB 0) (lB (nB 0) 13) (fB 14)) (fB 15)))))) (.node (nB 255) (.node (nB 0) (.node (nB 0) (.node (nB 0) (.node (nB 0) (.node (nB 0) (.node (nB
  15) (lB (nB 3) 12) (fB 13)) (fB 14)) (.node (nB 0) (.node (nB 52) (lB (nB 3) 12) (fB 13)) (fB 14))) (.node (nB 0) (.node (nB 0) (.node (nB 50) (lB (nB 64) 12) (fB 13)) (fB 14))
  (.node (nB 0) (lB (nB 0) 13) (fB 14)))) (.node (nB 0) (.node (nB 0) (.node (nB 0) (lB (nB 49) 13) (fB 14)) (.node (nB 0) (.node (nB 0) (lB (nB 192) 12) (fB 13)) (fB 14))) (.node
  (nB 0) (.node (nB 0) (lB (nB 51) 13) (fB 14)) (fB 15)))) (.node (nB 0) (.node (nB 0) (.node (nB 0) (fB 15) (.node (nB 0) (lB (nB 0) 13) (fB 14))) (.node (nB 0) (.node (nB 0) (lB
  (nB 0) 13) (fB 14)) (.node (nB 0) (lB (nB 0) 13) (fB 14)))) (.node (nB 0) (.node (nB 0) (.node (nB 0) (lB (nB 0) 13) (fB 14)) (.node (nB 0) (lB (nB 0) 13) (fB 14))) (.node (nB 0)
  (.node (nB 0) (lB (nB 0) 13) (fB 14)) (fB 15))))) (.node (nB 0) (.node (nB 0) (.node (nB 0) (.node (nB 0) (fB 15) (.node (nB 0) (lB (nB 0) 13) (fB 14))) (.node (nB 0) (.node (nB 0)
  (.node (nB 0) (lB (nB 128) 12) (fB 13)) (fB 14)) (.node (nB 0) (lB (nB 0) 13) (fB 14)))) (.node (nB 0) (.node (nB 0) (.node (nB 0) (lB (nB 0) 13) (fB 14)) (.node (nB 0) (lB (nB 0)
  13) (fB 14))) (.node (nB 0) (.node (nB 0) (lB (nB 0) 13) (fB 14)) (fB 15)))) (.node (nB 0) (.node (nB 0) (.node (nB 0) (fB 15) (.node (nB 0) (lB (nB 0) 13) (fB 14))) (.node (nB 0)
  (.node (nB 0) (lB (nB 0) 13) (fB 14)) (.node (nB 0) (lB (nB 0) 13) (fB 14)))) (.node (nB 0) (.node (nB 0) (.node (nB 0) (lB (nB 0) 13) (fB 14)) (.node (nB 0) (lB (nB 0) 13) (fB
  14))) (.node (nB 0) (.node (nB 0) (lB (nB 0) 13) (fB 14)) (fB 15))))))) (.node (nB 0) (.node (nB 0) (.node (nB 0) (.node (nB 0) (.node (nB 0) (.node (nB 0) (.node (nB 0) (lB (nB 0)
  13) (fB 14)) (.node (nB 0) (.node (nB 0) (lB (nB 69) 12) (fB 13)) (fB 14))) (.node (nB 0) (.node (nB 0) (lB (nB 0) 13) (fB 14)) (.node (nB 0) (lB (nB 0) 13) (fB 14)))) (.node (nB
  0) (.node (nB 0) (.node (nB 0) (.node (nB 0) (lB (nB 69) 12) (fB 13)) (fB 14)) (.node (nB 0) (lB (nB 0) 13) (fB 14))) (.node (nB 0) (.node (nB 0) (lB (nB 0) 13) (fB 14)) (fB 15))))
  (.node (nB 0) (.node (nB 0) (.node (nB 0) (fB 15) (.node (nB 0) (lB (nB 0) 13) (fB 14))) (.node (nB 0) (.node (nB 0) (lB (nB 0) 13) (fB 14)) (.node (nB 0) (lB (nB 0) 13) (fB 14))))
  (.node (nB 0) (.node (nB 0) (.node (nB 0) (lB (nB 0) 13) (fB 14)) (.node (nB 0) (lB (nB 0) 13) (fB 14))) (.node (nB 0) (.node (nB 0) (lB (nB 0) 13) (fB 14)) (fB 15))))) (.node (nB
  0) (.node (nB 0) (.node (nB 0) (.node (nB 0) (fB 15) (.node (nB 0) (lB (nB 0) 13) (fB 14))) (.node (nB 0) (.node (nB 0) (lB (nB 0) 13) (fB 14)) (.node (nB 0) (lB (nB 0) 13) (fB
  14)))) (.node (nB 0) (.node (nB 0) (.node (nB 0) (lB (nB 0) 13) (fB 14)) (.node (nB 0) (lB (nB 0) 13) (fB 14))) (.node (nB 0) (.node (nB 0) (lB (nB 0) 13) (fB 14)) (fB 15))))
  (.node (nB 0) (.node (nB 0) (.node (nB 0) (fB 15) (.node (nB 0) (lB (nB 0) 13) (fB 14))) (.node (nB 0) (.node (nB 0) (lB (nB 0) 13) (fB 14)) (.node (nB 0) (lB (nB 0) 13) (fB 14))))
  (.node (nB 0) (.node (nB 0) (.node (nB 0) (lB (nB 0) 13) (fB 14)) (.node (nB 0) (lB (nB 0) 13) (fB 14))) (.node (nB 0) (.node (nB 0) (lB (nB 0) 13) (fB 14)) (fB 15)))))) (.node (nB
  255) (.node (nB 0) (.node (nB 0) (.node (nB 0) (.node (nB 0) (.node (nB 0) (lB (nB 0) 13) (fB 14)) (.node (nB 0) (lB (nB 0) 13) (fB 14))) (.node (nB 0) (.node (nB 0) (lB (nB 0) 13)
  (fB 14)) (.node (nB 0) (lB (nB 0) 13) (fB 14)))) (.node (nB 0) (.node (nB 0) (.node (nB 0) (lB (nB 0) 13) (fB 14)) (.node (nB 0) (lB (nB 0) 13) (fB 14))) (.node (nB 0) (.node (nB
  0) (lB (nB 0) 13) (fB 14)) (fB 15)))) (.node (nB 0) (.node (nB 0) (.node (nB 0) (fB 15) (.node (nB 0) (lB (nB 0) 13) (fB 14))) (.node (nB 0) (.node (nB 0) (lB (nB 0) 13) (fB 14))
  (.node (nB 0) (lB (nB 0) 13) (fB 14)))) (.node (nB 0) (.node (nB 0) (.node (nB 0) (lB (nB 0) 13) (fB 14)) (.node (nB 0) (lB (nB 0) 13) (fB 14))) (.node (nB 0) (.node (nB 0) (lB (nB
  0) 13) (fB 14)) (fB 15))))) (.node (nB 0) (.node (nB 0) (.node (nB 0) (.node (nB 0) (fB 15) (.node (nB 0) (lB (nB 0) 13) (fB 14))) (.node (nB 0) (.node (nB 0) (lB (nB 0) 13) (fB
  14)) (.node (nB 0) (lB (nB 0) 13) (fB 14)))) (.node (nB 0) (.node (nB 0) (.node (nB 0) (lB (nB 0) 13) (fB 14)) (.node (nB 0) (lB (nB 0) 13) (fB 14))) (.node (nB 0) (.node (nB 0)
  (lB (nB 0) 13) (fB 14)) (fB 15)))) (.node (nB 0) (.node (nB 0) (.node (nB 0) (fB 15) (.node (nB 0) (lB (nB 0) 13) (fB 14))) (.node (nB 0) (.node (nB 0) (lB (nB 0) 13) (fB 14))
  (.node (nB 0) (lB (nB 0) 13) (fB 14)))) (.node (nB 0) (.node (nB 0) (.node (nB 0) (lB (nB 0) 13) (fB 14)) (.node (nB 0) (lB (nB 0) 13) (fB 14))) (.node (nB 0) (.node (nB 0) (lB (nB
  0) 13) (fB 14)) (fB 15)))))))) (.node (nB 73) (.node (nB 0) (.node (nB 0) (.node (nB 0) (.node (nB 0) (.node (nB 0) (.node (nB 0) (.node (nB 0) (lB (nB 0) 13) (fB 14)) (.node (nB
  0) (lB (nB 0) 13) (fB 14))) (.node (nB 0) (.node (nB 0) (lB (nB 0) 13) (fB 14)) (.node (nB 0) (lB (nB 0) 13) (fB 14)))) (.node (nB 0) (.node (nB 0) (.node (nB 0) (lB (nB 0) 13) (fB
  14)) (.node (nB 0) (lB (nB 0) 13) (fB 14))) (.node (nB 0) (.node (nB 0) (lB (nB 0) 13) (fB 14)) (fB 15)))) (.node (nB 0) (.node (nB 0) (.node (nB 0) (fB 15) (.node (nB 0) (lB (nB
  0) 13) (fB 14))) (.node (nB 0) (.node (nB 0) (lB (nB 0) 13) (fB 14)) (.node (nB 0) (lB (nB 0) 13) (fB 14)))) (.node (nB 0) (.node (nB 0) (.node (nB 0) (lB (nB 0) 13) (fB 14))
  (.node (nB 0) (lB (nB 0) 13) (fB 14))) (.node (nB 0) (.node (nB 0) (lB (nB 0) 13) (fB 14)) (fB 15))))) (.node (nB 0) (.node (nB 0) (.node (nB 0) (.node (nB 0) (fB 15) (.node (nB 0)
  (lB (nB 0) 13) (fB 14))) (.node (nB 0) (.node (nB 0) (lB (nB 0) 13) (fB 14)) (.node (nB 0) (lB (nB 0) 13) (fB 14)))) (.node (nB 0) (.node (nB 0) (.node (nB 0) (lB (nB 0) 13) (fB
  14)) (.node (nB 0) (lB (nB 0) 13) (fB 14))) (.node (nB 0) (.node (nB 0) (lB (nB 0) 13) (fB 14)) (fB 15)))) (.node (nB 0) (.node (nB 0) (.node (nB 0) (fB 15) (.node (nB 0) (lB (nB
  0) 13) (fB 14))) (.node (nB 0) (.node (nB 0) (lB (nB 0) 13) (fB 14)) (.node (nB 0) (lB (nB 0) 13) (fB 14)))) (.node (nB 0) (.node (nB 0) (.node (nB 0) (lB (nB 0) 13) (fB 14))
  (.node (nB 0) (lB (nB 0) 13) (fB 14))) (.node (nB 0) (.node (nB 0) (lB (nB 0) 13) (fB 14)) (fB 15)))))) (.node (nB 255) (.node (nB 0) (.node (nB 0) (.node (nB 0) (.node (nB 0)
  (.node (nB 0) (lB (nB 0) 13) (fB 14)) (.node (nB 0) (lB (nB 0) 13) (fB 14))) (.node (nB 0) (.node (nB 0) (lB (nB 0) 13) (fB 14)) (.node (nB 0) (lB (nB 0) 13) (fB 14)))) (.node (nB
  0) (.node (nB 0) (.node (nB 0) (lB (nB 0) 13) (fB 14)) (.node (nB 0) (lB (nB 0) 13) (fB 14))) (.node (nB 0) (.node (nB 0) (lB (nB 0) 13) (fB 14)) (fB 15)))) (.node (nB 0) (.node
  (nB 0) (.node (nB 0) (fB 15) (.node (nB 0) (lB (nB 0) 13) (fB 14))) (.node (nB 0) (.node (nB 0) (lB (nB 0) 13) (fB 14)) (.node (nB 0) (lB (nB 0) 13) (fB 14)))) (.node (nB 0) (.node
  (nB 0) (.node (nB 0) (lB (nB 0) 13) (fB 14)) (.node (nB 0) (lB (nB 0) 13) (fB 14))) (.node (nB 0) (.node (nB 0) (lB (nB 0) 13) (fB 14)) (fB 15))))) (.node (nB 0) (.node (nB 0)
  (.node (nB 0) (.node (nB 0) (fB 15) (.node (nB 0) (lB (nB 0) 13) (fB 14))) (.node (nB 0) (.node (nB 0) (lB (nB 0) 13) (fB 14)) (.node (nB 0) (lB (nB 0) 13) (fB 14)))) (.node (nB 0)
  (.node (nB 0) (.node (nB 0) (lB (nB 0) 13) (fB 14)) (.node (nB 0) (lB (nB 0) 13) (fB 14))) (.node (nB 0) (.node (nB 0) (lB (nB 0) 13) (fB 14)) (fB 15)))) (.node (nB 0) (.node (nB
  0) (.node (nB 0) (fB 15) (.node (nB 0) (lB (nB 0) 13) (fB 14))) (.node (nB 0) (.node (nB 0) (lB (nB 0) 13) (fB 14)) (.node (nB 0) (lB (nB 0) 13) (fB 14)))) (.node (nB 0) (.node (nB
  0) (.node (nB 0) (lB (nB 0) 13) (fB 14)) (.node (nB 0) (lB (nB 0) 13) (fB 14))) (.node (nB 0) (.node (nB 0) (lB (nB 0) 13) (fB 14)) (fB 15))))))) (.node (nB 0) (.node (nB 0) (.node
  (nB 0) (.node (nB 0) (.node (nB 0) (.node (nB 0) (.node (nB 0) (lB (nB 0) 13) (fB 14)) (.node (nB 0) (.node (nB 0) (lB (nB 69) 12) (fB 13)) (fB 14))) (.node (nB 0) (.node (nB 0)
  (lB (nB 0) 13) (fB 14)) (.node (nB 0) (lB (nB 0) 13) (fB 14)))) (.node (nB 0) (.node (nB 0) (.node (nB 0) (.node (nB 0) (lB (nB 69) 12) (fB 13)) (fB 14)) (.node (nB 0) (lB (nB 0)
  13) (fB 14))) (.node (nB 0) (.node (nB 0) (lB (nB 0) 13) (fB 14)) (fB 15)))) (.node (nB 0) (.node (nB 0) (.node (nB 0) (fB 15) (.node (nB 0) (lB (nB 0) 13) (fB 14))) (.node (nB 0)
  (.node (nB 0) (lB (nB 0) 13) (fB 14)) (.node (nB 0) (lB (nB 0) 13) (fB 14)))) (.node (nB 0) (.node (nB 0) (.node (nB 0) (lB (nB 0) 13) (fB 14)) (.node (nB 0) (lB (nB 0) 13) (fB
  14))) (.node (nB 0) (.node (nB 0) (lB (nB 0) 13) (fB 14)) (fB 15))))) (.node (nB 0) (.node (nB 0) (.node (nB 0) (.node (nB 0) (fB 15) (.node (nB 0) (lB (nB 0) 13) (fB 14))) (.node
  (nB 0) (.node (nB 0) (lB (nB 0) 13) (fB 14)) (.node (nB 0) (lB (nB 0) 13) (fB 14)))) (.node (nB 0) (.node (nB 0) (.node (nB 0) (lB (nB 0) 13) (fB 14)) (.node (nB 0) (lB (nB 0) 13)
  (fB 14))) (.node (nB 0) (.node (nB 0) (lB (nB 0) 13) (fB 14)) (fB 15)))) (.node (nB 0) (.node (nB 0) (.node (nB 0) (fB 15) (.node (nB 0) (lB (nB 0) 13) (fB 14))) (.node (nB 0)
  (.node (nB 0) (lB (nB 0) 13) (fB 14)) (.node (nB 0) (lB (nB 0) 13) (fB 14)))) (.node (nB 0) (.node (nB 0) (.node (nB 0) (lB (nB 0) 13) (fB 14)) (.node (nB 0) (lB (nB 0) 13) (fB
  14))) (.node (nB 0) (.node (nB 0) (lB (nB 0) 13) (fB 14)) (fB 15)))))) (.node (nB 255) (.node (nB 0) (.node (nB 0) (.node (nB 0) (.node (nB 0) (.node (nB 0) (lB (nB 0) 13) (fB 14))
  (.node (nB 0) (lB (nB 0) 13) (fB 14))) (.node (nB 0) (.node (nB 0) (lB (nB 0) 13) (fB 14)) (.node (nB 0) (lB (nB 0) 13) (fB 14)))) (.node (nB 0) (.node (nB 0) (.node (nB 0) (lB (nB
  0) 13) (fB 14)) (.node (nB 0) (lB (nB 0) 13) (fB 14))) (.node (nB 0) (.node (nB 0) (lB (nB 0) 13) (fB 14)) (fB 15)))) (.node (nB 0) (.node (nB 0) (.node (nB 0) (fB 15) (.node (nB
  0) (lB (nB 0) 13) (fB 14))) (.node (nB 0) (.node (nB 0) (lB (nB 0) 13) (fB 14)) (.node (nB 0) (lB (nB 0) 13) (fB 14)))) (.node (nB 0) (.node (nB 0) (.node (nB 0) (lB (nB 0) 13) (fB
  14)) (.node (nB 0) (lB (nB 0) 13) (fB 14))) (.node (nB 0) (.node (nB 0) (lB (nB 0) 13) (fB 14)) (fB 15))))) (.node (nB 0) (.node (nB 0) (.node (nB 0) (.node (nB 0) (fB 15) (.node
  (nB 0) (lB (nB 0) 13) (fB 14))) (.node (nB 0) (.node (nB 0) (lB (nB 0) 13) (fB 14)) (.node (nB 0) (lB (nB 0) 13) (fB 14)))) (.node (nB 0) (.node (nB 0) (.node (nB 0) (lB (nB 0) 13)
  (fB 14)) (.node (nB 0) (lB (nB 0) 13) (fB 14))) (.node (nB 0) (.node (nB 0) (lB (nB 0) 13) (fB 14)) (fB 15)))) (.node (nB 0) (.node (nB 0) (.node (nB 0) (fB 15) (.node (nB 0) (lB
  (nB 0) 13) (fB 14))) (.node (nB 0) (.node (nB 0) (lB (nB 0) 13) (fB 14)) (.node (nB 0) (lB (nB 0) 13) (fB 14)))) (.node (nB 0) (.node (nB 0) (.node (nB 0) (lB (nB 0) 13) (fB 14))
  (.node (nB 0) (lB (nB 0) 13) (fB 14))) (.node (nB 0) (.node (nB 0) (lB (nB 0) 13) (fB 14)) (fB 15)))))))))) true false) 19) (.node .dead (.node .dead (.node .dead (fD 17) (.node
  .dead (fD 16) (lD (.cells 25 1 200 (.node (nU 5929342154728227142) (.node (nU 5120) (.node (nU 18446744073709546495) (.node (nU 0) (.node (nU 0) (.node (nU 0) (.node (nU 0) (lA (nU
  0) 16) (lA (nU 0) 16)) (.node (nU 0) (lA (nU 0) 16) (fA 17))) (.node (nU 0) (.node (nU 0) (lA (nU 0) 16) (fA 17)) (.node (nU 0) (lA (nU 0) 16) (fA 17)))) (.node (nU 0) (.node (nU
  0) (.node (nU 0) (lA (nU 0) 16) (lA (nU 0) 16)) (.node (nU 0) (lA (nU 0) 16) (fA 17))) (.node (nU 0) (.node (nU 0) (lA (nU 0) 16) (fA 17)) (.node (nU 0) (lA (nU 0) 16) (fA 17)))))
  (.node (nU 0) (.node (nU 0) (.node (nU 0) (.node (nU 0) (lA (nU 0) 16) (lA (nU 0) 16)) (.node (nU 0) (lA (nU 0) 16) (fA 17))) (.node (nU 0) (.node (nU 0) (lA (nU 0) 16) (fA 17))
  (.node (nU 0) (lA (nU 0) 16) (fA 17)))) (.node (nU 0) (.node (nU 0) (.node (nU 0) (lA (nU 0) 16) (fA 17)) (.node (nU 0) (lA (nU 0) 16) (fA 17))) (.node (nU 0) (.node (nU 0) (lA (nU
  0) 16) (fA 17)) (.node (nU 0) (lA (nU 0) 16) (fA 17)))))) (.node (nU 0) (.node (nU 0) (.node (nU 0) (.node (nU 0) (.node (nU 0) (lA (nU 15) 16) (lA (nU 0) 16)) (.node (nU 0) (lA
  (nU 52) 16) (fA 17))) (.node (nU 0) (.node (nU 0) (lA (nU 50) 16) (fA 17)) (.node (nU 0) (lA (nU 0) 16) (fA 17)))) (.node (nU 0) (.node (nU 0) (.node (nU 0) (lA (nU 49) 16) (fA
  17)) (.node (nU 0) (lA (nU 0) 16) (fA 17))) (.node (nU 0) (.node (nU 0) (lA (nU 51) 16) (fA 17)) (.node (nU 0) (lA (nU 0) 16) (fA 17))))) (.node (nU 0) (.node (nU 0) (.node (nU 0)
  (.node (nU 0) (lA (nU 0) 16) (lA (nU 0) 16)) (.node (nU 0) (lA (nU 0) 16) (fA 17))) (.node (nU 0) (.node (nU 0) (lA (nU 0) 16) (fA 17)) (.node (nU 0) (lA (nU 0) 16) (fA 17))))
  (.node (nU 0) (.node (nU 0) (.node (nU 0) (lA (nU 0) 16) (fA 17)) (.node (nU 0) (lA (nU 0) 16) (fA 17))) (.node (nU 0) (.node (nU 0) (lA (nU 0) 16) (fA 17)) (.node (nU 0) (lA (nU
  0) 16) (fA 17))))))) (.node (nU 2112) (.node (nU 0) (.node (nU 0) (.node (nU 0) (.node (nU 0) (.node (nU 0) (lA (nU 1) 16) (lA (nU 0) 16)) (.node (nU 0) (lA (nU 1) 16) (fA 17)))
  (.node (nU 0) (.node (nU 0) (lA (nU 1) 16) (fA 17)) (.node (nU 0) (lA (nU 0) 16) (fA 17)))) (.node (nU 0) (.node (nU 0) (.node (nU 0) (lA (nU 1) 16) (fA 17)) (.node (nU 0) (lA (nU
  0) 16) (fA 17))) (.node (nU 0) (.node (nU 0) (lA (nU 1) 16) (fA 17)) (.node (nU 0) (lA (nU 0) 16) (fA 17))))) (.node (nU 0) (.node (nU 0) (.node (nU 0) (.node (nU 0) (lA (nU 0) 16)
  (lA (nU 0) 16)) (.node (nU 0) (lA (nU 0) 16) (fA 17))) (.node (nU 0) (.node (nU 0) (lA (nU 0) 16) (fA 17)) (.node (nU 0) (lA (nU 0) 16) (fA 17)))) (.node (nU 0) (.node (nU 0)
  (.node (nU 0) (lA (nU 0) 16) (fA 17)) (.node (nU 0) (lA (nU 0) 16) (fA 17))) (.node (nU 0) (.node (nU 0) (lA (nU 0) 16) (fA 17)) (.node (nU 0) (lA (nU 0) 16) (fA 17)))))) (.node
  (nU 0) (.node (nU 0) (.node (nU 0) (.node (nU 0) (.node (nU 0) (lA (nU 0) 16) (lA (nU 0) 16)) (.node (nU 0) (lA (nU 0) 16) (fA 17))) (.node (nU 0) (.node (nU 0) (lA (nU 0) 16) (fA
  17)) (.node (nU 0) (lA (nU 0) 16) (fA 17)))) (.node (nU 0) (.node (nU 0) (.node (nU 0) (lA (nU 0) 16) (fA 17)) (.node (nU 0) (lA (nU 0) 16) (fA 17))) (.node (nU 0) (.node (nU 0)
  (lA (nU 0) 16) (fA 17)) (.node (nU 0) (lA (nU 0) 16) (fA 17))))) (.node (nU 0) (.node (nU 0) (.node (nU 0) (.node (nU 0) (lA (nU 0) 16) (lA (nU 0) 16)) (.node (nU 0) (lA (nU 0) 16)
  (fA 17))) (.node (nU 0) (.node (nU 0) (lA (nU 0) 16) (fA 17)) (.node (nU 0) (lA (nU 0) 16) (fA 17)))) (.node (nU 0) (.node (nU 0) (.node (nU 0) (lA (nU 0) 16) (fA 17)) (.node (nU
  0) (lA (nU 0) 16) (fA 17))) (.node (nU 0) (.node (nU 0) (lA (nU 0) 16) (fA 17)) (.node (nU 0) (lA (nU 0) 16) (fA 17)))))))) false false) 15))) (fD 18)) (lD (.loop .ready none 44
  (.node (.sl 18 0 0 5120 (.k 5120)) (.node undefV (.node (nI 0) (.node undefV (lU (.sl 18 0 0 5120 (.k 5120)) 19) (fU 20)) (lU (.bool false) 20)) (.node undefV (lU (nI 5120) 20) (lU
  (.agg [.nilsl, .nilsl, (.map 52), (nU 0), (nU 0), (nU 0), (nU 0)]) 20))) (.node .nil (.node (.ptr 54 0) (.node (.sl 18 0 0 5120 (.k 5120)) (lU (.fn (.func 147) [] [(.ptr 55 0),
  (.ptr 56 0)]) 19) (fU 20)) (lU (.map 52) 20)) (.node undefV (lU (.bool true) 20) (lU (.ptr 53 0) 20)))) 53 #[17] (codeAt Tryz.f44 [1, 1, 1, 0, 1, 0, 0]) (codeAt Tryz.f44 [1, 1, 1,
  0, 1, 0, 1]) 57) 18))) (.node .dead (.node .dead (fD 19) (lD (.cells 53 1 1 (lA (.ptr 53 0) 23) true false) 18)) (fD 20))))), 459⟩,
  [.dr ⟨(opsAt Tryz.f147 [1, 0, 0, 1, 0, 0, 0]),
  [0, 0, 0, 6, 14, 31, 63], [], 64, 63, 63⟩, .code (codeAt Tryz.f147 [1, 0, 0, 1, 0, 0, 1]), .blk 1, .code (codeAt Tryz.f147 [1, 0, 0, 1, 1]), .lp (codeAt Tryz.f147 [1, 0, 0]), .blk
  0]⟩
set_option maxRecDepth 1000000 in
theorem starts : okF ctx 3 = true := by kernel_rfl
set_option maxRecDepth 1000000 in
theorem part1 : cutR [0, 1, 2, 3, 4, 5, 18, 19, 37, 49, 52, 53, 54, 55, 56, 57, 58, 458] (fromStart ctx 3 18800) = .inl s1 := by kernel_rfl
end Go.Proofs.YtelipbpnplcofaaGreat.parentNil
