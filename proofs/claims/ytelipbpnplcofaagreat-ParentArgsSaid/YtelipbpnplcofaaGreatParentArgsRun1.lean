/-
  PROVED HERE: the first part of the run of the evaluator from the call of ParentArgs, whatever its arguments are.
  Conditions: none.
-/
import Derived.Test.YtelipbpnplcofaaGreatRows
import Derived.KernelRfl
import Derived.Test.YtelipbpnplcofaaGreatLewE
namespace Go.Proofs.YtelipbpnplcofaaGreat.parentArgs
open Go.Lev
/-- the evaluator's tables -/
noncomputable def ctx : Ctx := ctxOf Tryz.prog
set_option maxRecDepth 1000000 in
theorem cloneFirst : (Tryz.f367.name == "runtime.NumGoroutine") = false := by kernel_rfl
set_option maxRecDepth 1000000 in
theorem cloneNext : Extern.findNext Tryz.f367 = none := by kernel_rfl
set_option maxRecDepth 1000000 in
theorem cloneFind : Extern.find Tryz.f367 = some Extern.MapsClone.clone := by kernel_rfl
/-- the evaluator's tables say what the program's say -/
theorem tables : CtxOk Tryz.prog ctx :=
  ctxOk_clone (n := 367) (by kernel_rfl) (by kernel_rfl) (by kernel_rfl) Tryz.func367 cloneFirst cloneNext cloneFind
/-- where the run stands at the end of the first part -/
noncomputable def p1 (a0 a1 : Int) (v2 : V) : St :=
  ⟨⟨147, 31, [], .normal, none,
  [⟨44, 53, [⟨(.coll 18), []⟩], .normal, none, .run, (.node (.sl 1 0 0 3072 (.k 3072)) (.node undefV (.node (nI 0) (.node undefV (lU (.sl 1 0 0 3072
  (.k 3072)) 19) (fU 20)) (lU (.bool false) 20)) (.node undefV (lU (nI 3072) 20) (lU (.agg [.nilsl, .nilsl, (.map 13), (nU 0), (nU 0), (nU 0), (nU 0)]) 20))) (.node .nil (.node (.ptr
  15 0) (.node (.sl 1 0 0 3072 (.k 3072)) (lU (.fn (.func 147) [] [(.ptr 16 0), (.ptr 17 0)]) 19) (fU 20)) (lU (.map 13) 20)) (.node undefV (lU (.bool true) 20) (lU (.ptr 14 0)
  20)))), [.rf 19, .blk 0, .code (codeAt Tryz.f44 [1, 1, 1, 1])]⟩,
    ⟨13, 37, [], .normal, none, .run, (.node (.sl 1 0 0 3072 (.k 3072)) (lU (nI 1) 22) (.node undefV (.node .nil
  (fU 21) (lU (.sl 1 0 0 3072 (.k 3072)) 20)) (fU 22))), [.reg (opsAt Tryz.f13 [1, 0]) ((opsAt Tryz.f13 [1, 0]).toList.drop 1), .code (codeAt Tryz.f13 [1, 1])]⟩,
    ⟨4, 79, [],
  .normal, none, .run, (.node (.int .i64 a0) (.node (.int .u64 a1) (.node undefV (.node (.ptr 2 0) (lU (.ptr 2 0) 19) (fU 20)) (.node undefV (lU (.ptr 2 0) 19) (fU 20))) (.node
  undefV (.node undefV (lU (.ptr 2 0) 19) (fU 20)) (lU (.agg [(nI 2), .nilsl, (nI 4), (nI 0)]) 20))) (.node v2 (.node undefV (.node undefV (lU (.bool false) 19) (fU 20)) (.node
  undefV (lU (.sl 1 0 0 3072 (.k 3072)) 19) (fU 20))) (.node (.bool false) (.node undefV (lU (.ptr 2 0) 19) (fU 20)) (lU (.ptr 2 0) 20)))), [.reg (opsAt Tryz.f4 [1, 1, 1, 0]) ((opsAt
  Tryz.f4 [1, 1, 1, 0]).toList.drop 4), .code (codeAt Tryz.f4 [1, 1, 1, 1])]⟩]⟩,
  .run,
  (.node (.yld 19) (.node (.ptr 16 0) (.node undefV (.node (.sl 1 0 0 3072 (.k 3072)) (lU (nI
  1792) 19) (lU (nI 8) 19)) (.node (nI 8) (lU (.yld 19) 19) (lU (nI 1800) 19))) (.node (nI 8) (.node (.bool true) (lU (nI 1280) 19) (lU (nI 1792) 19)) (.node (nI 8) (lU (nI 1792) 19)
  (lU (.bool true) 19)))) (.node (.ptr 17 0) (.node (nI 1792) (.node (nI 3072) (lU (.sl 1 1792 0 1280 (.k 1280)) 19) (lU (nI 1800) 19)) (.node (nI 1792) (lU (.sl 1 0 0 3072 (.k
  3072)) 19) (lU (.sl 1 1792 0 8 (.k 8)) 19))) (.node (nI 1792) (.node (nI 1784) (lU (nI 8) 19) (lU (nI 8) 19)) (.node (.sl 1 0 0 3072 (.k 3072)) (lU (nI 1792) 19) (lU (.bool false)
  19))))),
  ⟨(.node .dead (.node (.cells 5 1 3072 (.node (nB 70) (.node (nB 65) (.node (nB 84) (.node (nB 82) (.node (nB 0) (.node (nB 255) (.node (nB 0) (.node (nB 0) (.node (nB 0)
  (fB 15) (lB (nB 0) 14)) (.node (nB 0) (lB (nB 0) 14) (fB 15))) (.node (nB 0) (fB 16) (.node (nB 0) (lB (nB 0) 14) (fB 15)))) (.node (nB 0) (.node (nB 0) (fB 16) (.node (nB 0) (lB
  (nB 0) 14) (fB 15))) (.node (nB 0) (.node (nB 0) (lB (nB 0) 14) (fB 15)) (.node (nB 0) (lB (nB 0) 14) (fB 15))))) (.node (nB 0) (.node (nB 0) (.node (nB 0) (.node (nB 0) (lB (nB 0)
  14) (fB 15)) (.node (nB 0) (lB (nB 0) 14) (fB 15))) (.node (nB 0) (.node (nB 0) (lB (nB 0) 14) (fB 15)) (.node (nB 0) (lB (nB 0) 14) (fB 15)))) (.node (nB 0) (.node (nB 0) (fB 16)
  (.node (nB 0) (lB (nB 0) 14) (fB 15))) (.node (nB 0) (.node (nB 0) (lB (nB 0) 14) (fB 15)) (.node (nB 0) (lB (nB 0) 14) (fB 15)))))) (.node (nB 0) (.node (nB 0) (.node (nB 0)
  (.node (nB 0) (.node (nB 0) (lB (nB 0) 14) (fB 15)) (.node (nB 0) (lB (nB 0) 14) (fB 15))) (.node (nB 0) (.node (nB 0) (.node (nB 0) (lB (nB 76) 13) (fB 14)) (fB 15)) (.node (nB 0)
  (lB (nB 0) 14) (fB 15)))) (.node (nB 0) (.node (nB 0) (fB 16) (.node (nB 0) (lB (nB 0) 14) (fB 15))) (.node (nB 0) (.node (nB 0) (lB (nB 0) 14) (fB 15)) (.node (nB 0) (lB (nB 0)
  14) (fB 15))))) (.node (nB 0) (.node (nB 0) (.node (nB 0) (fB 16) (.node (nB 0) (lB (nB 0) 14) (fB 15))) (.node (nB 0) (.node (nB 0) (lB (nB 0) 14) (fB 15)) (.node (nB 0) (lB (nB
  0) 14) (fB 15)))) (.node (nB 0) (.node (nB 0) (fB 16) (.node (nB 0) (lB (nB 0) 14) (fB 15))) (.node (nB 0) (.node (nB 0) (lB (nB 0) 14) (fB 15)) (.node (nB 0) (lB (nB 0) 14) (fB
  15))))))) (.node (nB 0) (.node (nB 0) (.node (nB 0) (.node (nB 0) (.node (nB 0) (.node (nB 0) (lB (nB 0) 14) (fB 15)) (.node (nB 0) (lB (nB 0) 14) (fB 15))) (.node (nB 0) (.node
  (nB 0) (.node (nB 0) (lB (nB 69) 13) (fB 14)) (fB 15)) (.node (nB 0) (lB (nB 0) 14) (fB 15)))) (.node (nB 0) (.node (nB 0) (fB 16) (.node (nB 0) (lB (nB 0) 14) (fB 15))) (.node (nB
  0) (.node (nB 0) (lB (nB 0) 14) (fB 15)) (.node (nB 0) (lB (nB 0) 14) (fB 15))))) (.node (nB 0) (.node (nB 0) (.node (nB 0) (fB 16) (.node (nB 0) (lB (nB 0) 14) (fB 15))) (.node
  (nB 0) (.node (nB 0) (lB (nB 0) 14) (fB 15)) (.node (nB 0) (lB (nB 0) 14) (fB 15)))) (.node (nB 0) (.node (nB 0) (fB 16) (.node (nB 0) (lB (nB 0) 14) (fB 15))) (.node (nB 0) (.node
  (nB 0) (lB (nB 0) 14) (fB 15)) (.node (nB 0) (lB (nB 0) 14) (fB 15)))))) (.node (nB 255) (.node (nB 0) (.node (nB 0) (.node (nB 0) (.node (nB 0) (lB (nB 0) 14) (fB 15)) (.node (nB
  0) (lB (nB 0) 14) (fB 15))) (.node (nB 0) (.node (nB 0) (lB (nB 0) 14) (fB 15)) (.node (nB 0) (lB (nB 0) 14) (fB 15)))) (.node (nB 0) (.node (nB 0) (fB 16) (.node (nB 0) (lB (nB 0)
  14) (fB 15))) (.node (nB 0) (.node (nB 0) (lB (nB 0) 14) (fB 15)) (.node (nB 0) (lB (nB 0) 14) (fB 15))))) (.node (nB 0) (.node (nB 0) (.node (nB 0) (fB 16) (.node (nB 0) (lB (nB
  0) 14) (fB 15))) (.node (nB 0) (.node (nB 0) (lB (nB 0) 14) (fB 15)) (.node (nB 0) (lB (nB 0) 14) (fB 15)))) (.node (nB 0) (.node (nB 0) (fB 16) (.node (nB 0) (lB (nB 0) 14) (fB
  15))) (.node (nB 0) (.node (nB 0) (lB (nB 0) 14) (fB 15)) (.node (nB 0) (lB (nB 0) 14) (fB 15)))))))) (.node (nB 65) (.node (nB 12) (.node (nB 4) (.node (nB 0) (.node (nB 0) (.node
  (nB 0) (.node (nB 0) (lB (nB 0) 14) (fB 15)) (.node (nB 0) (lB (nB 0) 14) (fB 15))) (.node (nB 0) (.node (nB 0) (lB (nB 0) 14) (fB 15)) (.node (nB 0) (lB (nB 0) 14) (fB 15))))
  (.node (nB 0) (.node (nB 0) (fB 16) (.node (nB 0) (lB (nB 0) 14) (fB 15))) (.node (nB 0) (.node (nB 0) (.node (nB 0) (lB (nB 4) 13) (fB 14)) (fB 15)) (.node (nB 0) (lB (nB 0) 14)
  (fB 15))))) (.node (nB 0) (.node (nB 0) (.node (nB 0) (fB 16) (.node (nB 0) (lB (nB 0) 14) (fB 15))) (.node (nB 0) (.node (nB 0) (lB (nB 0) 14) (fB 15)) (.node (nB 0) (lB (nB 0)
  14) (fB 15)))) (.node (nB 0) (.node (nB 0) (fB 16) (.node (nB 0) (lB (nB 0) 14) (fB 15))) (.node (nB 0) (.node (nB 0) (lB (nB 0) 14) (fB 15)) (.node (nB 0) (lB (nB 0) 14) (fB
  15)))))) (.node (nB 243) (.node (nB 0) (.node (nB 0) (.node (nB 0) (.node (nB 0) (lB (nB 0) 14) (fB 15)) (.node (nB 0) (lB (nB 0) 14) (fB 15))) (.node (nB 0) (.node (nB 0) (lB (nB
  0) 14) (fB 15)) (.node (nB 0) (lB (nB 0) 14) (fB 15)))) (.node (nB 0) (.node (nB 0) (fB 16) (.node (nB 0) (lB (nB 0) 14) (fB 15))) (.node (nB 0) (.node (nB 0) (lB (nB 0) 14) (fB
  15)) (.node (nB 0) (lB (nB 0) 14) (fB 15))))) (.node (nB 0) (.node (nB 0) (.node (nB 0) (fB 16) (.node (nB 0) (lB (nB 0) 14) (fB 15))) (.node (nB 0) (.node (nB 0) (lB (nB 0) 14)
  (fB 15)) (.node (nB 0) (lB (nB 0) 14) (fB 15)))) (.node (nB 0) (.node (nB 0) (fB 16) (.node (nB 0) (lB (nB 0) 14) (fB 15))) (.node (nB 0) (.node (nB 0) (lB (nB 0) 14) (fB 15))
  (.node (nB 0) (lB (nB 0) 14) (fB 15))))))) (.node (nB 0) (.node (nB 0) (.node (nB 0) (.node (nB 0) (.node (nB 0) (.node (nB 0) (lB (nB 0) 14) (fB 15)) (.node (nB 0) (lB (nB 0) 14)
  (fB 15))) (.node (nB 0) (.node (nB 0) (.node (nB 0) (lB (nB 86) 13) (fB 14)) (fB 15)) (.node (nB 0) (lB (nB 0) 14) (fB 15)))) (.node (nB 0) (.node (nB 0) (fB 16) (.node (nB 0) (lB
  (nB 0) 14) (fB 15))) (.node (nB 0) (.node (nB 0) (lB (nB 0) 14) (fB 15)) (.node (nB 0) (lB (nB 0) 14) (fB 15))))) (.node (nB 0) (.node (nB 0) (.node (nB 0) (fB 16) (.node (nB 0)
  (lB (nB 0) 14) (fB 15))) (.node (nB 0) (.node (nB 0) (lB (nB 0) 14) (fB 15)) (.node (nB 0) (lB (nB 0) 14) (fB 15)))) (.node (nB 0) (.node (nB 0) (fB 16) (.node (nB 0) (lB (nB 0)
  14) (fB 15))) (.node (nB 0) (.node (nB 0) (lB (nB 0) 14) (fB 15)) (.node (nB 0) (lB (nB 0) 14) (fB 15)))))) (.node (nB 255) (.node (nB 0) (.node (nB 0) (.node (nB 0) (.node (nB 0)
  (lB (nB 0) 14) (fB 15)) (.node (nB 0) (lB (nB 0) 14) (fB 15))) (.node (nB 0) (.node (nB 0) (lB (nB 0) 14) (fB 15)) (.node (nB 0) (lB (nB 0) 14) (fB 15)))) (.node (nB 0) (.node (nB
  0) (fB 16) (.node (nB 0) (lB (nB 0) 14) (fB 15))) (.node (nB 0) (.node (nB 0) (lB (nB 0) 14) (fB 15)) (.node (nB 0) (lB (nB 0) 14) (fB 15))))) (.node (nB 0) (.node (nB 0) (.node
  (nB 0) (fB 16) (.node (nB 0) (lB (nB 0) 14) (fB 15))) (.node (nB 0) (.node (nB 0) (lB (nB 0) 14) (fB 15)) (.node (nB 0) (lB (nB 0) 14) (fB 15)))) (.node (nB 0) (.node (nB 0) (fB
  16) (.node (nB 0) (lB (nB 0) 14) (fB 15))) (.node (nB 0) (.node (nB 0) (lB (nB 0) 14) (fB 15)) (.node (nB 0) (lB (nB 0) 14) (fB 15))))))))) (.node (nB 83) (.node (nB 70) (.node (nB
  0) (.node (nB 64) (.node (nB 0) (.node (nB 0) (.node (nB 0) (.node (nB 0) (.node (nB 0) (lB (nB 3) 13) (fB 14)) (fB 15)) (.node (nB 0) (lB (nB 0) 14) (fB 15))) (.node (nB 0) (.node
  (nB 0) (lB (nB 0) 14) (fB 15)) (.node (nB 0) (lB (nB 0) 14) (fB 15)))) (.node (nB 0) (.node (nB 0) (fB 16) (.node (nB 0) (lB (nB 0) 14) (fB 15))) (.node (nB 0) (.node (nB 0) (.node
  (nB 0) (lB (nB 64) 13) (fB 14)) (fB 15)) (.node (nB 0) (lB (nB 0) 14) (fB 15))))) (.node (nB 0) (.node (nB 0) (.node (nB 0) (fB 16) (.node (nB 0) (lB (nB 0) 14) (fB 15))) (.node
  (nB 0) (.node (nB 0) (lB (nB 0) 14) (fB 15)) (.node (nB 0) (lB (nB 0) 14) (fB 15)))) (.node (nB 0) (.node (nB 0) (fB 16) (.node (nB 0) (lB (nB 0) 14) (fB 15))) (.node (nB 0) (.node
  (nB 0) (lB (nB 0) 14) (fB 15)) (.node (nB 0) (lB (nB 0) 14) (fB 15)))))) (.node (nB 255) (.node (nB 0) (.node (nB 0) (.node (nB 0) (.node (nB 0) (.node (nB 0) (lB (nB 1) 13) (fB
  14)) (fB 15)) (.node (nB 0) (lB (nB 0) 14) (fB 15))) (.node (nB 0) (.node (nB 0) (lB (nB 0) 14) (fB 15)) (.node (nB 0) (lB (nB 0) 14) (fB 15)))) (.node (nB 0) (.node (nB 0) (fB 16)
  (.node (nB 0) (lB (nB 0) 14) (fB 15))) (.node (nB 0) (.node (nB 0) (lB (nB 0) 14) (fB 15)) (.node (nB 0) (lB (nB 0) 14) (fB 15))))) (.node (nB 0) (.node (nB 0) (.node (nB 0) (fB
  16) (.node (nB 0) (lB (nB 0) 14) (fB 15))) (.node (nB 0) (.node (nB 0) (lB (nB 0) 14) (fB 15)) (.node (nB 0) (lB (nB 0) 14) (fB 15)))) (.node (nB 0) (.node (nB 0) (fB 16) (.node
  (nB 0) (lB (nB 0) 14) (fB 15))) (.node (nB 0) (.node (nB 0) (lB (nB 0) 14) (fB 15)) (.node (nB 0) (lB (nB 0) 14) (fB 15))))))) (.node (nB 0) (.node (nB 0) (.node (nB 0) (.node (nB
  0) (.node (nB 0) (.node (nB 0) (lB (nB 0) 14) (fB 15)) (.node (nB 0) (lB (nB 0) 14) (fB 15))) (.node (nB 0) (.node (nB 0) (.node (nB 0) (lB (nB 69) 13) (fB 14)) (fB 15)) (.node (nB
  0) (lB (nB 0) 14) (fB 15)))) (.node (nB 0) (.node (nB 0) (fB 16) (.node (nB 0) (lB (nB 0) 14) (fB 15))) (.node (nB 0) (.node (nB 0) (lB (nB 0) 14) (fB 15)) (.node (nB 0) (lB (nB 0)
  14) (fB 15))))) (.node (nB 0) (.node (nB 0) (.node (nB 0) (fB 16) (.node (nB 0) (lB (nB 0) 14) (fB 15))) (.node (nB 0) (.node (nB 0) (lB (nB 0) 14) (fB 15)) (.node (nB 0) (lB (nB
  0) 14) (fB 15)))) (.node (nB 0) (.node (nB 0) (fB 16) (.node (nB 0) (lB (nB 0) 14) (fB 15))) (.node (nB 0) (.node (nB 0) (lB (nB 0) 14) (fB 15)) (.node (nB 0) (lB (nB 0) 14) (fB
  15)))))) (.node (nB 255) (.node (nB 0) (.node (nB 0) (.node (nB 0) (.node (nB 0) (lB (nB 0) 14) (fB 15)) (.node (nB 0) (lB (nB 0) 14) (fB 15))) (.node (nB 0) (.node (nB 0) (lB (nB
  0) 14) (fB 15)) (.node (nB 0) (lB (nB 0) 14) (fB 15)))) (.node (nB 0) (.node (nB 0) (fB 16) (.node (nB 0) (lB (nB 0) 14) (fB 15))) (.node (nB 0) (.node (nB 0) (lB (nB 0) 14) (fB
  15)) (.node (nB 0) (lB (nB 0) 14) (fB 15))))) (.node (nB 0) (.node (nB 0) (.node (nB 0) (fB 16) (.node (nB 0) (lB (nB 0) 14) (fB 15))) (.node (nB 0) (.node (nB 0) (lB (nB 0) 14)
  (fB 15)) (.node (nB 0) (lB (nB 0) 14) (fB 15)))) (.node (nB 0) (.node (nB 0) (fB 16) (.node (nB 0) (lB (nB 0) 14) (fB 15))) (.node (nB 0) (.node (nB 0) (lB (nB 0) 14) (fB 15))
  (.node (nB 0) (lB (nB 0) 14) (fB 15)))))))) (.node (nB 73) (.node (nB 0) (.node (nB 0) (.node (nB 0) (.node (nB 0) (.node (nB 0) (.node (nB 0) (lB (nB 0) 14) (fB 15)) (.node (nB 0)
  (lB (nB 0) 14) (fB 15))) (.node (nB 0) (.node (nB 0) (lB (nB 0) 14) (fB 15)) (.node (nB 0) (lB (nB 0) 14) (fB 15)))) (.node (nB 0) (.node (nB 0) (fB 16) (.node (nB 0) (lB (nB 0)
  14) (fB 15))) (.node (nB 0) (.node (nB 0) (lB (nB 0) 14) (fB 15)) (.node (nB 0) (lB (nB 0) 14) (fB 15))))) (.node (nB 0) (.node (nB 0) (.node (nB 0) (fB 16) (.node (nB 0) (lB (nB
  0) 14) (fB 15))) (.node (nB 0) (.node (nB 0) (lB (nB 0) 14) (fB 15)) (.node (nB 0) (lB (nB 0) 14) (fB 15)))) (.node (nB 0) (.node (nB 0) (fB 16) (.node (nB 0) (lB (nB 0) 14) (fB
  15))) (.node (nB 0) (.node (nB 0) (lB (nB 0) 14) (fB 15)) (.node (nB 0) (lB (nB 0) 14) (fB 15)))))) (.node (nB 255) (.node (nB 0) (.node (nB 0) (.node (nB 0) (.node (nB 0) (lB (nB
  0) 14) (fB 15)) (.node (nB 0) (lB (nB 0) 14) (fB 15))) (.node (nB 0) (.node (nB 0) (lB (nB 0) 14) (fB 15)) (.node (nB 0) (lB (nB 0) 14) (fB 15)))) (.node (nB 0) (.node (nB 0) (fB
  16) (.node (nB 0) (lB (nB 0) 14) (fB 15))) (.node (nB 0) (.node (nB 0) (lB (nB 0) 14) (fB 15)) (.node (nB 0) (lB (nB 0) 14) (fB 15))))) (.node (nB 0) (.node (nB 0) (.node (nB 0)
  (fB 16) (.node (nB 0) (lB (nB 0) 14) (fB 15))) (.node (nB 0) (.node (nB 0) (lB (nB 0) 14) (fB 15)) (.node (nB 0) (lB (nB 0) 14) (fB 15)))) (.node (nB 0) (.node (nB 0) (fB 16)
  (.node (nB 0) (lB (nB 0) 14) (fB 15))) (.node (nB 0) (.node (nB 0) (lB (nB 0) 14) (fB 15)) (.node (nB 0) (lB (nB 0) 14) (fB 15))))))) (.node (nB 0) (.node (nB 0) (.node (nB 0)
  (.node (nB 0) (.node (nB 0) (.node (nB 0) (lB (nB 0) 14) (fB 15)) (.node (nB 0) (lB (nB 0) 14) (fB 15))) (.node (nB 0) (.node (nB 0) (.node (nB 0) (lB (nB 69) 13) (fB 14)) (fB 15))
  (.node (nB 0) (lB (nB 0) 14) (fB 15)))) (.node (nB 0) (.node (nB 0) (fB 16) (.node (nB 0) (lB (nB 0) 14) (fB 15))) (.node (nB 0) (.node (nB 0) (lB (nB 0) 14) (fB 15)) (.node (nB 0)
  (lB (nB 0) 14) (fB 15))))) (.node (nB 0) (.node (nB 0) (.node (nB 0) (fB 16) (.node (nB 0) (lB (nB 0) 14) (fB 15))) (.node (nB 0) (.node (nB 0) (lB (nB 0) 14) (fB 15)) (.node (nB
  0) (lB (nB 0) 14) (fB 15)))) (.node (nB 0) (.node (nB 0) (fB 16) (.node (nB 0) (lB (nB 0) 14) (fB 15))) (.node (nB 0) (.node (nB 0) (lB (nB 0) 14) (fB 15)) (.node (nB 0) (lB (nB 0)
  14) (fB 15)))))) (.node (nB 255) (.node (nB 0) (.node (nB 0) (.node (nB 0) (.node (nB 0) (lB (nB 0) 14) (fB 15)) (.node (nB 0) (lB (nB 0) 14) (fB 15))) (.node (nB 0) (.node (nB 0)
  (lB (nB 0) 14) (fB 15)) (.node (nB 0) (lB (nB 0) 14) (fB 15)))) (.node (nB 0) (.node (nB 0) (fB 16) (.node (nB 0) (lB (nB 0) 14) (fB 15))) (.node (nB 0) (.node (nB 0) (lB (nB 0)
  14) (fB 15)) (.node (nB 0) (lB (nB 0) 14) (fB 15))))) (.node (nB 0) (.node (nB 0) (.node (nB 0) (fB 16) (.node (nB 0) (lB (nB 0) 14) (fB 15))) (.node (nB 0) (.node (nB 0) (lB (nB
  0) 14) (fB 15)) (.node (nB 0) (lB (nB 0) 14) (fB 15)))) (.node (nB 0) (.node (nB 0) (fB 16) (.node (nB 0) (lB (nB 0) 14) (fB 15))) (.node (nB 0) (.node (nB 0) (lB (nB 0) 14) (fB
  15)) (.node (nB 0) (lB (nB 0) 14) (fB 15)))))))))) true false) (.node .dead (.node .dead (lD (.cells 53 1 1 (lA (.ptr 14 0) 23) true false) 19) (fD 20)) (.node .dead (lD (.loop
  .ready none 44 (.node (.sl 1 0 0 3072 (.k 3072)) (.node undefV (.node (nI 0) (.node undefV (lU (.sl 1 0 0 3072 (.k 3072)) 19) (fU 20)) (lU (.bool false) 20)) (.node undefV (lU (nI
  3072) 20) (lU (.agg [.nilsl, .nilsl, (.map 13), (nU 0), (nU 0), (nU 0), (nU 0)]) 20))) (.node .nil (.node (.ptr 15 0) (.node (.sl 1 0 0 3072 (.k 3072)) (lU (.fn (.func 147) []
  [(.ptr 16 0), (.ptr 17 0)]) 19) (fU 20)) (lU (.map 13) 20)) (.node undefV (lU (.bool true) 20) (lU (.ptr 14 0) 20)))) 53 #[17] (codeAt Tryz.f44 [1, 1, 1, 0, 1, 0, 0]) (codeAt
  Tryz.f44 [1, 1, 1, 0, 1, 0, 1]) 18) 19) (fD 20))) (.node (.cells 176 22 22 (.node (nU 1088) (.node (nI 0) (.node (nU 0) (.node (nU 0) (lA (nU 0) 19) (fA 20)) (.node (nU 0) (lA (nU
  0) 19) (fA 20))) (.node (nU 1088) (.node (nU 0) (lA (nU 0) 19) (fA 20)) (.node (nU 0) (lA (nU 0) 19) (fA 20)))) (.node (nU 0) (.node (nU 0) (.node (nU 0) (lA (nU 0) 19) (fA 20))
  (.node (nU 0) (lA (nU 0) 19) (fA 20))) (.node (nU 0) (.node (nU 0) (lA (nU 0) 19) (fA 20)) (lA (nU 0) 20)))) false false) (.node .dead (lD (.cells 3 1 1 (lA (nI 8) 23) true false)
  19) (fD 20)) (.node (.map [] 0) (.node .dead (fD 19) (.node .dead (.node .dead (fD 17) (.node .dead (fD 16) (lD (.cells 25 1 225 (.node (nU 5929342154728227142) (.node (nU 3072)
  (.node (nU 18446744073709548543) (.node (nU 0) (.node (nU 0) (.node (nU 0) (.node (nU 0) (lA (nU 0) 16) (lA (nU 0) 16)) (.node (nU 0) (lA (nU 0) 16) (lA (nU 0) 16))) (.node (nU 0)
  (.node (nU 0) (lA (nU 0) 16) (lA (nU 0) 16)) (.node (nU 0) (lA (nU 0) 16) (fA 17)))) (.node (nU 0) (.node (nU 0) (.node (nU 0) (lA (nU 0) 16) (lA (nU 0) 16)) (.node (nU 0) (lA (nU
  0) 16) (fA 17))) (.node (nU 0) (.node (nU 0) (lA (nU 0) 16) (lA (nU 0) 16)) (.node (nU 0) (lA (nU 0) 16) (fA 17))))) (.node (nU 0) (.node (nU 0) (.node (nU 0) (.node (nU 0) (lA (nU
  0) 16) (lA (nU 0) 16)) (.node (nU 0) (lA (nU 0) 16) (fA 17))) (.node (nU 0) (.node (nU 0) (lA (nU 0) 16) (lA (nU 0) 16)) (.node (nU 0) (lA (nU 0) 16) (fA 17)))) (.node (nU 0)
  (.node (nU 0) (.node (nU 0) (lA (nU 0) 16) (lA (nU 0) 16)) (.node (nU 0) (lA (nU 0) 16) (fA 17))) (.node (nU 0) (.node (nU 0) (lA (nU 0) 16) (lA (nU 0) 16)) (.node (nU 0) (lA (nU
  0) 16) (fA 17)))))) (.node (nU 0) (.node (nU 0) (.node (nU 0) (.node (nU 0) (.node (nU 0) (lA (nU 1) 16) (lA (nU 0) 16)) (.node (nU 0) (lA (nU 0) 16) (fA 17))) (.node (nU 0) (.node
  (nU 0) (lA (nU 0) 16) (lA (nU 0) 16)) (.node (nU 0) (lA (nU 0) 16) (fA 17)))) (.node (nU 0) (.node (nU 0) (.node (nU 0) (lA (nU 0) 16) (lA (nU 0) 16)) (.node (nU 0) (lA (nU 0) 16)
  (fA 17))) (.node (nU 0) (.node (nU 0) (lA (nU 0) 16) (lA (nU 0) 16)) (.node (nU 0) (lA (nU 0) 16) (fA 17))))) (.node (nU 0) (.node (nU 0) (.node (nU 0) (.node (nU 0) (lA (nU 0) 16)
  (lA (nU 0) 16)) (.node (nU 0) (lA (nU 0) 16) (fA 17))) (.node (nU 0) (.node (nU 0) (lA (nU 0) 16) (lA (nU 0) 16)) (.node (nU 0) (lA (nU 0) 16) (fA 17)))) (.node (nU 0) (.node (nU
  0) (.node (nU 0) (lA (nU 0) 16) (lA (nU 0) 16)) (.node (nU 0) (lA (nU 0) 16) (fA 17))) (.node (nU 0) (.node (nU 0) (lA (nU 0) 16) (lA (nU 0) 16)) (.node (nU 0) (lA (nU 0) 16) (fA
  17))))))) (.node (nU 1088) (.node (nU 0) (.node (nU 0) (.node (nU 0) (.node (nU 0) (.node (nU 0) (lA (nU 3) 16) (lA (nU 0) 16)) (.node (nU 0) (lA (nU 0) 16) (lA (nU 0) 16))) (.node
  (nU 0) (.node (nU 0) (lA (nU 0) 16) (lA (nU 0) 16)) (.node (nU 0) (lA (nU 0) 16) (fA 17)))) (.node (nU 0) (.node (nU 0) (.node (nU 0) (lA (nU 5495893775785918464) 16) (lA (nU 0)
  16)) (.node (nU 0) (lA (nU 0) 16) (fA 17))) (.node (nU 0) (.node (nU 0) (lA (nU 0) 16) (lA (nU 0) 16)) (.node (nU 0) (lA (nU 0) 16) (fA 17))))) (.node (nU 0) (.node (nU 0) (.node
  (nU 0) (.node (nU 0) (lA (nU 0) 16) (lA (nU 0) 16)) (.node (nU 0) (lA (nU 0) 16) (fA 17))) (.node (nU 0) (.node (nU 0) (lA (nU 0) 16) (lA (nU 0) 16)) (.node (nU 0) (lA (nU 0) 16)
  (fA 17)))) (.node (nU 0) (.node (nU 0) (.node (nU 0) (lA (nU 1088) 16) (lA (nU 0) 16)) (.node (nU 0) (lA (nU 0) 16) (fA 17))) (.node (nU 0) (.node (nU 0) (lA (nU 0) 16) (lA (nU 0)
  16)) (.node (nU 0) (lA (nU 0) 16) (fA 17)))))) (.node (nU 0) (.node (nU 0) (.node (nU 0) (.node (nU 0) (.node (nU 0) (lA (nU 0) 16) (lA (nU 0) 16)) (.node (nU 0) (lA (nU 0) 16) (fA
  17))) (.node (nU 0) (.node (nU 0) (lA (nU 0) 16) (lA (nU 0) 16)) (.node (nU 0) (lA (nU 0) 16) (fA 17)))) (.node (nU 0) (.node (nU 0) (.node (nU 0) (lA (nU 0) 16) (lA (nU 0) 16))
  (.node (nU 0) (lA (nU 0) 16) (fA 17))) (.node (nU 0) (.node (nU 0) (lA (nU 0) 16) (lA (nU 0) 16)) (.node (nU 0) (lA (nU 0) 16) (fA 17))))) (.node (nU 0) (.node (nU 0) (.node (nU 0)
  (.node (nU 0) (lA (nU 0) 16) (lA (nU 0) 16)) (.node (nU 0) (lA (nU 0) 16) (fA 17))) (.node (nU 0) (.node (nU 0) (lA (nU 0) 16) (lA (nU 0) 16)) (.node (nU 0) (lA (nU 0) 16) (fA
  17)))) (.node (nU 0) (.node (nU 0) (.node (nU 0) (lA (nU 0) 16) (lA (nU 0) 16)) (.node (nU 0) (lA (nU 0) 16) (fA 17))) (.node (nU 0) (.node (nU 0) (lA (nU 0) 16) (lA (nU 0) 16))
  (.node (nU 0) (lA (nU 0) 16) (fA 17)))))))) false false) 15))) (fD 18))) (fD 20)))) (.node (.cells 50 8 8 (.node (.sl 1 0 0 3072 (.k 3072)) (.node (nI 2) (.node (nI 0) (lA (.sl 12
  0 0 1 (.u 12 0)) 20) (fA 21)) (lA (nI 1) 21)) (.node (nI 1) (lA (nI 0) 21) (lA (nI 1) 21))) true false) (.node .dead (.node .dead (lD (.cells 47 1 1 (lA (.sl 1 0 0 3072 (.k 3072))
  23) true false) 19) (fD 20)) (lD (.cells 170 1 1 (lA (.sl 5 0 0 1 (.u 5 0)) 23) false false) 20)) (.node .dead (.node .dead (lD (.defd (some [])) 19) (fD 20)) (lD (.cells 128 7 7
  (.node .nilsl (.node (.sl 469 0 0 225 (.u 469 0)) (lA (nU 0) 21) (lA (nU 0) 21)) (.node (.map 13) (lA (nU 0) 21) (lA (nU 0) 21))) true false) 20)))), 470⟩,
  [.code (codeAt
  Tryz.f147 [1, 0, 0, 1, 1]), .lp (codeAt Tryz.f147 [1, 0, 0]), .blk 0]⟩
set_option maxRecDepth 1000000 in
theorem starts : okF ctx 4 = true := by kernel_rfl
set_option maxRecDepth 1000000 in
theorem first (a0 a1 : Int) (v2 : V) : cutR [1, 2, 5, 12, 13, 14, 15, 16, 17, 18, 19, 469] (fromStartA ctx 4 [.int .i64 a0, .int .u64 a1, v2] 17750) = .inl (p1 a0 a1 v2) := by kernel_rfl
end Go.Proofs.YtelipbpnplcofaaGreat.parentArgs
