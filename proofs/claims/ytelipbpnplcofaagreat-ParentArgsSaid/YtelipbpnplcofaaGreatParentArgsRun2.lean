/-
  PROVED HERE: the second part of the run of the evaluator from the call of ParentArgs, whatever its arguments are.
  Conditions: none.
-/
import Derived.KernelRfl
import Derived.Test.YtelipbpnplcofaaGreatParentArgsRun1
namespace Go.Proofs.YtelipbpnplcofaaGreat.parentArgs
open Go.Lev
/-- ahead of the first parent that is asked for -/
noncomputable def p2 (a0 a1 : Int) (v2 : V) : St :=
  ⟨⟨4, 79, [], .normal, none,
  []⟩,
  .run,
  (.node (.int .i64 a0) (.node (.int .u64 a1) (.node undefV (.node (.ptr 2 0) (lU (.ptr 2 0) 19) (fU 20)) (.node undefV (lU (.ptr 2 0)
  19) (fU 20))) (.node undefV (.node undefV (lU (.ptr 2 0) 19) (fU 20)) (.node (.agg [(nI 2), .nilsl, (nI 4), (nI 0)]) (lU (.ptr 869 0) 19) (fU 20)))) (.node v2 (.node undefV (.node
  undefV (lU (.bool false) 19) (fU 20)) (.node undefV (lU (.sl 1 0 0 3072 (.k 3072)) 19) (fU 20))) (.node (.bool false) (.node undefV (lU (.ptr 2 0) 19) (fU 20)) (lU (.ptr 2 0)
  20)))),
  ⟨(.node .dead (.node (.cells 5 1 3072 (.node (nB 70) (.node (nB 65) (.node (nB 84) (.node (nB 82) (.node (nB 0) (.node (nB 255) (.node (nB 0) (.node (nB 0) (.node (nB 0)
  (fB 15) (lB (nB 0) 14)) (.node (nB 0) (lB (nB 0) 14) (fB 15))) (.node (nB 0) (fB 16) (.node (nB 0) (lB (nB 0) 14) (fB 15)))) (.node (nB 0) (.node (nB 0) (fB 16) (.node (nB 0) (lB
  (nB 0) 14) (fB 15))) (.node (nB 0) (.node (nB 0) (lB (nB 0) 14) (fB 15)) (.node (nB 0) (lB (nB 0) 14) (fB 15))))) (.node (nB 0) (.node (nB 0) (.node (nB 0) (.node (nB 0) (lB (nB 0)
  14) (fB 15)) (.node (nB 0) (lB (nB 0) 14) (fB 15))) (.node (nB 0) (.node (nB 0) (lB (nB 0) 14) (fB 15)) (.node (nB 0) (lB (nB 0) 14) (fB 15)))) (.node (nB 0) (.node (nB 0) (fB 16)
  (.node (nB 0) (lB (nB 0) 14) (fB 15))) (.node (nB 0) (.node (nB 0) (lB (nB 0) 14) (fB 15)) (.node (nB 0) (lB (nB 0) 14) (fB 15)))))) (.node (nB 0) (.node (nB 0) (.node (nB 0)
  (.node (nB 0) (.node (nB 0) (lB (nB 0) 14) (fB 15)) (.node (nB 0) (lB (nB 0) 14) (fB 15))) (.node (nB 0) (.node (nB 0) (.node (nB 0) (lB (nB 76) 13) (fB 14)) (fB 15)) (.node (nB 0)
  (lB (nB 0) 14) (fB 15)))) (.node (nB 0) (.node (nB 0) (fB 16) (.node (nB 0) (lB (nB 0) 14) (fB 15))) (.node (nB 0) (.node (nB 0) (lB (nB 0) 14) (fB 15)) (.node (nB 0) (lB (nB 0)
  14) (fB 15))))) (.node (nB 0) (.node (nB 0) (.node (nB 0) (fB 16) (.node (nB 0) (lB (nB 0) 14) (fB 15))) (.node (nB 0) (.node (nB 0) (lB (nB 0) 14) (fB 15)) (.node (nB 0) (lB (nB
  0) 14) (fB 15)))) (.node (nB 0) (.node (nB 0) (fB 16) (.node (nB 0) (lB (nB 0) 14) (fB 15))) (.node (nB 0) (.node (nB 0) (lB (nB 0) 14) (fB 15)) (.node (nB 0) (lB (nB 0) 14) (fB
  15))))))) (.node (nB 0) (.node (nB 0) (.node (nB 0) (.node (nB 0) (.node (nB 0) (.node (nB 0) (lB (nB 0) 14) (fB 15)) (.node (nB 0) (lB (nB 0) 14) (fB 15))) (.node (nB 0) (.node
  (nB 0) (.node (nB 0) (lB (nB 69) 13) (fB 14)) (fB 15)) (.node (nB 0) (lB (nB 0) 14) (fB 15)))) (.node (nB 0) (.node (nB 0) (fB 16) (.node (nB 0) (lB (nB 0) 14) (fB 15))) (.node (nB
  0) (.node (nB 0) (lB (nB 0) 14) (fB 15)) (.node (nB 0) (lB (nB 0) 14) (fB 15))))) (.node (nB 0) (.node (nB 0) (.node (nB 0) (fB 16) (.node (nB 0) (lB (nB 0) 14) (fB 15))) (.node
  (nB 0) (.node (nB 0) (lB (nB 0) 14) (fB 15)) (.node (nB 0) (lB (nB 0) 14) (fB 15)))) (.node (nB 0) (.node (nB 0) (fB 16) (.node (nB 0) (lB (nB 0) 14) (fB 15))) (.node (nB 0) (.node
  (nB 0) (lB (nB 0) 14) (fB 15)) (.node (nB 0) (lB (nB 0) 14) (fB 15)))))) (.node (nB 255) (.node (nB 0) (.node (nB 0) (.node (nB 0) (.node (nB 0) (lB (nB 0) 14) (fB 15)) (.node (nB
  0) (lB (nB 0) 14) (fB 15))) (.node (nB 0) (.node (nB 0) (lB (nB 0) 14) (fB 15)) (.node (nB 0) (lB (nB 0) 14) (fB 15)))) (.node (nB 0) (.node (nB 0) (fB 16) (.node (nB 0) (lB (nB 0)
  14) (fB 15))) (.node (nB 0) (.node (nB 0) (lB (nB 0) 14) (fB 15)) (.node (nB 0) (lB (nB 0) 14) (fB 15))))) (.node (nB 0) (.node (nB 0) (.node (nB 0) (fB 16) (.node (nB 0) (lB (nB
  0) 14) (fB 15))) (.node (nB 0) (.node (nB 0) (lB (nB 0) 14) (fB 15)) (.node (nB 0) (lB (nB 0) 14) (fB 15)))) (.node (nB 0) (.node (nB 0) (fB 16) (.node (nB 0) (lB (nB 0) 14) (fB
  15))) (.node (nB 0) (.node (nB 0) (lB (nB 0) 14) (fB 15)) (.node (nB 0) (lB (nB 0) 14) (fB 15)))))))) (.node (nB 65) (.node (nB 12) (.node (nB 4) (.node (nB 0) (.node (nB 0) (.node
  (nB 0) (.node (nB 0) (lB (nB 0) 14) (fB 15)) (.node (nB 0) (lB (nB 0) 14) (fB 15))) (.node (nB 0) (.node (nB 0) (lB (nB 0) 14) (fB 15)) (.node (nB 0) (lB (nB 0) 14) (fB 15))))
  (.node (nB 0) (.node (nB 0) (fB 16) (.node (nB 0) (lB (nB 0) 14) (fB 15))) (.node (nB 0) (.node (nB 0) (.node (nB 0) (lB (nB 4) 13) (fB 14)) (fB 15)) (.node (nB 0) (lB (nB 0) 14)
  (fB 15))))) (.node (nB 0) (.node (nB 0) (.node (nB 0) (fB 16) (.node (nB 0) (lB (nB 0) 14) (fB 15))) (.node (nB 0) (.node (nB 0) (lB (nB 0) 14) (fB 15)) (.node (nB 0) (lB (nB 0)
  14) (fB 15)))) (.node (nB 0) (.node (nB 0) (fB 16) (.node (nB 0) (lB (nB 0) 14) (fB 15))) (.node (nB 0) (.node (nB 0) (lB (nB 0) 14) (fB 15)) (.node (nB 0) (lB (nB 0) 14) (fB
  15)))))) (.node (nB 243) (.node (nB 0) (.node (nB 0) (.node (nB 0) (.node (nB 0) (lB (nB 0) 14) (fB 15)) (.node (nB 0) (lB (nB 0) 14) (fB 15))) (.node (nB 0) (.node (nB 0) (lB (nB
  0) 14) (fB 15)) (.node (nB 0) (lB (nB 0) 14) (fB 15)))) (.node (nB 0) (.node (nB 0) (fB 16) (.node (nB 0) (lB (nB 0) 14) (fB 15))) (.node (nB 0) (.node (nB 0) (lB (nB 0) 14) (fB
  15)) (.node (nB 0) (lB (nB 0) 14) (fB 15))))) (.node (nB 0) (.node (nB 0) (.node (nB 0) (fB 16) (.node (nB 0) (lB (nB 0) 14) (fB 15))) (.node (nB 0) (.node (nB 0) (lB (nB 0) 14)
  (fB 15)) (.node (nB 0) (lB (nB 0) 14) (fB 15)))) (.node (nB 0) (.node (nB 0) (fB 16) (.node (nB 0) (lB (nB 0) 14) (fB 15))) (.node (nB 0) (.node (nB 0) (lB (nB 0) 14) (fB 15))
  (.node (nB 0) (lB (nB 0) 14) (fB 15))))))) (.node (nB 0) (.node (nB 0) (.node (nB 0) (.node (nB 0) (.node (nB 0) (.node (nB 0) (lB (nB 0) 14) (fB 15)) (.node (nB 0) (lB (nB 0) 14)
  (fB 15))) (.node (nB 0) (.node (nB 0) (.node (nB 0) (lB (nB 86) 13) (fB 14)) (fB 15)) (.node (nB 0) (lB (nB 0) 14) (fB 15)))) (.node (nB 0) (.node (nB 0) (fB 16) (.node (nB 0) (lB
  (nB 0) 14) (fB 15))) (.node (nB 0) (.node (nB 0) (lB (nB 0) 14) (fB 15)) (.node (nB 0) (lB (nB 0) 14) (fB 15))))) (.node (nB 0) (.node (nB 0) (.node (nB 0) (fB 16) (.node (nB 0)
  (lB (nB 0) 14) (fB 15))) (.node (nB 0) (.node (nB 0) (lB (nB 0) 14) (fB 15)) (.node (nB 0) (lB (nB 0) 14) (fB 15)))) (.node (nB 0) (.node (nB 0) (fB 16) (.node (nB 0) (lB (nB 0)
  14) (fB 15))) (.node (nB 0) (.node (nB 0) (lB (nB 0) 14) (fB 15)) (.node (nB 0) (lB (nB 0) 14) (fB 15)))))) (.node (nB 255) (.node (nB 0) (.node (nB 0) (.node (nB 0) (.node (nB 0)
  (lB (nB 0) 14) (fB 15)) (.node (nB 0) (lB (nB 0) 14) (fB 15))) (.node (nB 0) (.node (nB 0) (lB (nB 0) 14) (fB 15)) (.node (nB 0) (lB (nB 0) 14) (fB 15)))) (.node (nB 0) (.node (nB
  0) (fB 16) (.node (nB 0) (lB (nB 0) 14) (fB 15))) (.node (nB 0) (.node (nB 0) (lB (nB 0) 14) (fB 15)) (.node (nB 0) (lB (nB 0) 14) (fB 15))))) (.node (nB 0) (.node (nB 0) (.node
  (nB 0) (fB 16) (.node (nB 0) (lB (nB 0) 14) (fB 15))) (.node (nB 0) (.node (nB 0) (lB (nB 0) 14) (fB 15)) (.node (nB 0) (lB (nB 0) 14) (fB 15)))) (.node (nB 0) (.node (nB 0) (fB
  16) (.node (nB 0) (lB (nB 0) 14) (fB 15))) (.node (nB 0) (.node (nB 0) (lB (nB 0) 14) (fB 15)) (.node (nB 0) (lB (nB 0) 14) (fB 15))))))))) (.node (nB 83) (.node (nB 70) (.node (nB
  0) (.node (nB 64) (.node (nB 0) (.node (nB 0) (.node (nB 0) (.node (nB 0) (.node (nB 0) (lB (nB 3) 13) (fB 14)) (fB 15)) (.node (nB 0) (lB (nB 0) 14) (fB 15))) (.node (nB 0) (.node
  (nB 0) (lB (nB 0) 14) (fB 15)) (.node (nB 0) (lB (nB 0) 14) (fB 15)))) (.node (nB 0) (.node (nB 0) (fB 16) (.node (nB 0) (lB (nB 0) 14) (fB 15))) (.node (nB 0) (.node (nB 0) (.node
  (nB 0) (lB (nB 64) 13) (fB 14)) (fB 15)) (.node (nB 0) (lB (nB 0) 14) (fB 15))))) (.node (nB 0) (.node (nB 0) (.node (nB 0) (fB 16) (.node (nB 0) (lB (nB 0) 14) (fB 15))) (.node
  (nB 0) (.node (nB 0) (lB (nB 0) 14) (fB 15)) (.node (nB 0) (lB (nB 0) 14) (fB 15)))) (.node (nB 0) (.node (nB 0) (fB 16) (.node (nB 0) (lB (nB 0) 14) (fB 15))) (.node (nB 0) (.node
  (nB 0) (lB (nB 0) 14) (fB 15)) (.node (nB 0) (lB (nB 0) 14) (fB 15)))))) (.node (nB 255) (.node (nB 0) (.node (nB 0) (.node (nB 0) (.node (nB 0) (.node (nB 0) (lB (nB 1) 13) (fB
  14)) (fB 15)) (.node (nB 0) (lB (nB 0) 14) (fB 15))) (.node (nB 0) (.node (nB 0) (lB (nB 0) 14) (fB 15)) (.node (nB 0) (lB (nB 0) 14) (fB 15)))) (.node (nB 0) (.node (nB 0) (fB 16)
  (.node (nB 0) (lB (nB 0) 14) (fB 15))) (.node (nB 0) (.node (nB 0) (lB (nB 0) 14) (fB 15)) (.node (nB 0) (lB (nB 0) 14) (fB 15))))) (.node (nB 0) (.node (nB 0) (.node (nB 0) (fB
  16) (.node (nB 0) (lB (nB 0) 14) (fB 15))) (.node (nB 0) (.node (nB 0) (lB (nB 0) 14) (fB 15)) (.node (nB 0) (lB (nB 0) 14) (fB 15)))) (.node (nB 0) (.node (nB 0) (fB 16) (.node
  (nB 0) (lB (nB 0) 14) (fB 15))) (.node (nB 0) (.node (nB 0) (lB (nB 0) 14) (fB 15)) (.node (nB 0) (lB (nB 0) 14) (fB 15))))))) (.node (nB 0) (.node (nB 0) (.node (nB 0) (.node (nB
  0) (.node (nB 0) (.node (nB 0) (lB (nB 0) 14) (fB 15)) (.node (nB 0) (lB (nB 0) 14) (fB 15))) (.node (nB 0) (.node (nB 0) (.node (nB 0) (lB (nB 69) 13) (fB 14)) (fB 15)) (.node (nB
  0) (lB (nB 0) 14) (fB 15)))) (.node (nB 0) (.node (nB 0) (fB 16) (.node (nB 0) (lB (nB 0) 14) (fB 15))) (.node (nB 0) (.node (nB 0) (lB (nB 0) 14) (fB 15)) (.node (nB 0) (lB (nB 0)
  14) (fB 15))))) (.node (nB 0) (.node (nB 0) (.node (nB 0) (fB 16) (.node (nB 0) (lB (nB 0) 14) (fB 15))) (.node (nB 0) (.node (nB 0) (lB (nB 0) 14) (fB 15)) (.node (nB 0) (lB (nB
  0) 14) (fB 15)))) (.node (nB 0) (.node (nB 0) (fB 16) (.node (nB 0) (lB (nB 0) 14) (fB 15))) (.node (nB 0) (.node (nB 0) (lB (nB 0) 14) (fB 15)) (.node (nB 0) (lB (nB 0) 14) (fB
  15)))))) (.node (nB 255) (.node (nB 0) (.node (nB 0) (.node (nB 0) (.node (nB 0) (lB (nB 0) 14) (fB 15)) (.node (nB 0) (lB (nB 0) 14) (fB 15))) (.node (nB 0) (.node (nB 0) (lB (nB
  0) 14) (fB 15)) (.node (nB 0) (lB (nB 0) 14) (fB 15)))) (.node (nB 0) (.node (nB 0) (fB 16) (.node (nB 0) (lB (nB 0) 14) (fB 15))) (.node (nB 0) (.node (nB 0) (lB (nB 0) 14) (fB
  15)) (.node (nB 0) (lB (nB 0) 14) (fB 15))))) (.node (nB 0) (.node (nB 0) (.node (nB 0) (fB 16) (.node (nB 0) (lB (nB 0) 14) (fB 15))) (.node (nB 0) (.node (nB 0) (lB (nB 0) 14)
  (fB 15)) (.node (nB 0) (lB (nB 0) 14) (fB 15)))) (.node (nB 0) (.node (nB 0) (fB 16) (.node (nB 0) (lB (nB 0) 14) (fB 15))) (.node (nB 0) (.node (nB 0) (lB (nB 0) 14) (fB 15))
  (.node (nB 0) (lB (nB 0) 14) (fB 15)))))))) (.node (nB 73) (.node (nB 0) (.node (nB 0) (.node (nB 0) (.node (nB 0) (.node (nB 0) (.node (nB 0) (lB (nB 0) 14) (fB 15)) (.node (nB 0)
  (lB (nB 0) 14) (fB 15))) (.node (nB 0) (.node (nB 0) (lB (nB 0) 14) (fB 15)) (.node (nB 0) (lB (nB 0) 14) (fB 15)))) (.node (nB 0) (.node (nB 0) (fB 16) (.node (nB 0) (lB (nB 0)
  14) (fB 15))) (.node (nB 0) (.node (nB 0) (lB (nB 0) 14) (fB 15)) (.node (nB 0) (lB (nB 0) 14) (fB 15))))) (.node (nB 0) (.node (nB 0) (.node (nB 0) (fB 16) (.node (nB 0) (lB (nB
  0) 14) (fB 15))) (.node (nB 0) (.node (nB 0) (lB (nB 0) 14) (fB 15)) (.node (nB 0) (lB (nB 0) 14) (fB 15)))) (.node (nB 0) (.node (nB 0) (fB 16) (.node (nB 0) (lB (nB 0) 14) (fB
  15))) (.node (nB 0) (.node (nB 0) (lB (nB 0) 14) (fB 15)) (.node (nB 0) (lB (nB 0) 14) (fB 15)))))) (.node (nB 255) (.node (nB 0) (.node (nB 0) (.node (nB 0) (.node (nB 0) (lB (nB
  0) 14) (fB 15)) (.node (nB 0) (lB (nB 0) 14) (fB 15))) (.node (nB 0) (.node (nB 0) (lB (nB 0) 14) (fB 15)) (.node (nB 0) (lB (nB 0) 14) (fB 15)))) (.node (nB 0) (.node (nB 0) (fB
  16) (.node (nB 0) (lB (nB 0) 14) (fB 15))) (.node (nB 0) (.node (nB 0) (lB (nB 0) 14) (fB 15)) (.node (nB 0) (lB (nB 0) 14) (fB 15))))) (.node (nB 0) (.node (nB 0) (.node (nB 0)
  (fB 16) (.node (nB 0) (lB (nB 0) 14) (fB 15))) (.node (nB 0) (.node (nB 0) (lB (nB 0) 14) (fB 15)) (.node (nB 0) (lB (nB 0) 14) (fB 15)))) (.node (nB 0) (.node (nB 0) (fB 16)
  (.node (nB 0) (lB (nB 0) 14) (fB 15))) (.node (nB 0) (.node (nB 0) (lB (nB 0) 14) (fB 15)) (.node (nB 0) (lB (nB 0) 14) (fB 15))))))) (.node (nB 0) (.node (nB 0) (.node (nB 0)
  (.node (nB 0) (.node (nB 0) (.node (nB 0) (lB (nB 0) 14) (fB 15)) (.node (nB 0) (lB (nB 0) 14) (fB 15))) (.node (nB 0) (.node (nB 0) (.node (nB 0) (lB (nB 69) 13) (fB 14)) (fB 15))
  (.node (nB 0) (lB (nB 0) 14) (fB 15)))) (.node (nB 0) (.node (nB 0) (fB 16) (.node (nB 0) (lB (nB 0) 14) (fB 15))) (.node (nB 0) (.node (nB 0) (lB (nB 0) 14) (fB 15)) (.node (nB 0)
  (lB (nB 0) 14) (fB 15))))) (.node (nB 0) (.node (nB 0) (.node (nB 0) (fB 16) (.node (nB 0) (lB (nB 0) 14) (fB 15))) (.node (nB 0) (.node (nB 0) (lB (nB 0) 14) (fB 15)) (.node (nB
  0) (lB (nB 0) 14) (fB 15)))) (.node (nB 0) (.node (nB 0) (fB 16) (.node (nB 0) (lB (nB 0) 14) (fB 15))) (.node (nB 0) (.node (nB 0) (lB (nB 0) 14) (fB 15)) (.node (nB 0) (lB (nB 0)
  14) (fB 15)))))) (.node (nB 255) (.node (nB 0) (.node (nB 0) (.node (nB 0) (.node (nB 0) (lB (nB 0) 14) (fB 15)) (.node (nB 0) (lB (nB 0) 14) (fB 15))) (.node (nB 0) (.node (nB 0)
  (lB (nB 0) 14) (fB 15)) (.node (nB 0) (lB (nB 0) 14) (fB 15)))) (.node (nB 0) (.node (nB 0) (fB 16) (.node (nB 0) (lB (nB 0) 14) (fB 15))) (.node (nB 0) (.node (nB 0) (lB (nB 0)
  14) (fB 15)) (.node (nB 0) (lB (nB 0) 14) (fB 15))))) (.node (nB 0) (.node (nB 0) (.node (nB 0) (fB 16) (.node (nB 0) (lB (nB 0) 14) (fB 15))) (.node (nB 0) (.node (nB 0) (lB (nB
  0) 14) (fB 15)) (.node (nB 0) (lB (nB 0) 14) (fB 15)))) (.node (nB 0) (.node (nB 0) (fB 16) (.node (nB 0) (lB (nB 0) 14) (fB 15))) (.node (nB 0) (.node (nB 0) (lB (nB 0) 14) (fB
  15)) (.node (nB 0) (lB (nB 0) 14) (fB 15)))))))))) true false) (.node .dead (.node .dead (fD 20) (.node .dead (fD 19) (.node .dead (.node .dead (.node .dead (.node .dead (fD 15)
  (lD (.map [⟨(nU 1088), (nI 2), 0⟩] 1) 14)) (fD 16)) (fD 17)) (fD 18)))) (.node .dead (.node .dead (.node .dead (fD 18) (.node .dead (fD 17) (.node .dead (.node .dead (fD 15) (lD
  (.map [] 0) 14)) (fD 16)))) (.node .dead (.node .dead (.node .dead (.node .dead (fD 15) (lD (.cells 25 1 384 (.node (nU 5929342154728227142) (.node (nU 3072) (.node (nU
  18446744073709548543) (.node (nU 0) (.node (nU 0) (.node (nU 0) (.node (nU 0) (.node (nU 0) (lA (nU 0) 15) (lA (nU 0) 15)) (.node (nU 0) (lA (nU 0) 15) (fA 16))) (.node (nU 0)
  (.node (nU 0) (lA (nU 0) 15) (fA 16)) (.node (nU 0) (lA (nU 0) 15) (fA 16)))) (.node (nU 0) (.node (nU 0) (.node (nU 0) (lA (nU 0) 15) (fA 16)) (.node (nU 0) (lA (nU 0) 15) (fA
  16))) (.node (nU 0) (.node (nU 0) (lA (nU 0) 15) (fA 16)) (.node (nU 0) (lA (nU 0) 15) (fA 16))))) (.node (nU 0) (.node (nU 0) (.node (nU 0) (.node (nU 0) (lA (nU 0) 15) (fA 16))
  (.node (nU 0) (lA (nU 0) 15) (fA 16))) (.node (nU 0) (.node (nU 0) (lA (nU 0) 15) (fA 16)) (.node (nU 0) (lA (nU 0) 15) (fA 16)))) (.node (nU 0) (.node (nU 0) (.node (nU 0) (lA (nU
  0) 15) (fA 16)) (.node (nU 0) (lA (nU 0) 15) (fA 16))) (.node (nU 0) (.node (nU 0) (lA (nU 0) 15) (fA 16)) (.node (nU 0) (lA (nU 0) 15) (fA 16)))))) (.node (nU 0) (.node (nU 0)
  (.node (nU 0) (.node (nU 0) (.node (nU 0) (lA (nU 0) 15) (fA 16)) (.node (nU 0) (lA (nU 0) 15) (fA 16))) (.node (nU 0) (.node (nU 0) (lA (nU 0) 15) (fA 16)) (.node (nU 0) (lA (nU
  0) 15) (fA 16)))) (.node (nU 0) (.node (nU 0) (.node (nU 0) (lA (nU 0) 15) (fA 16)) (.node (nU 0) (lA (nU 0) 15) (fA 16))) (.node (nU 0) (.node (nU 0) (lA (nU 0) 15) (fA 16))
  (.node (nU 0) (lA (nU 0) 15) (fA 16))))) (.node (nU 0) (.node (nU 0) (.node (nU 0) (.node (nU 0) (lA (nU 0) 15) (fA 16)) (.node (nU 0) (lA (nU 0) 15) (fA 16))) (.node (nU 0) (.node
  (nU 0) (lA (nU 0) 15) (fA 16)) (.node (nU 0) (lA (nU 0) 15) (fA 16)))) (.node (nU 0) (.node (nU 0) (.node (nU 0) (lA (nU 0) 15) (fA 16)) (.node (nU 0) (lA (nU 0) 15) (fA 16)))
  (.node (nU 0) (.node (nU 0) (lA (nU 0) 15) (fA 16)) (.node (nU 0) (lA (nU 0) 15) (fA 16))))))) (.node (nU 0) (.node (nU 0) (.node (nU 0) (.node (nU 0) (.node (nU 0) (.node (nU 1)
  (lA (nU 0) 15) (fA 16)) (.node (nU 0) (lA (nU 0) 15) (fA 16))) (.node (nU 0) (.node (nU 0) (lA (nU 0) 15) (fA 16)) (.node (nU 0) (lA (nU 0) 15) (fA 16)))) (.node (nU 0) (.node (nU
  0) (.node (nU 0) (lA (nU 0) 15) (fA 16)) (.node (nU 0) (lA (nU 0) 15) (fA 16))) (.node (nU 0) (.node (nU 0) (lA (nU 0) 15) (fA 16)) (.node (nU 0) (lA (nU 0) 15) (fA 16))))) (.node
  (nU 0) (.node (nU 0) (.node (nU 0) (.node (nU 0) (lA (nU 0) 15) (fA 16)) (.node (nU 0) (lA (nU 0) 15) (fA 16))) (.node (nU 0) (.node (nU 0) (lA (nU 0) 15) (fA 16)) (.node (nU 0)
  (lA (nU 0) 15) (fA 16)))) (.node (nU 0) (.node (nU 0) (.node (nU 0) (lA (nU 0) 15) (fA 16)) (.node (nU 0) (lA (nU 0) 15) (fA 16))) (.node (nU 0) (.node (nU 0) (lA (nU 0) 15) (fA
  16)) (.node (nU 0) (lA (nU 0) 15) (fA 16)))))) (.node (nU 0) (.node (nU 0) (.node (nU 0) (.node (nU 0) (.node (nU 0) (lA (nU 0) 15) (fA 16)) (.node (nU 0) (lA (nU 0) 15) (fA 16)))
  (.node (nU 0) (.node (nU 0) (lA (nU 0) 15) (fA 16)) (.node (nU 0) (lA (nU 0) 15) (fA 16)))) (.node (nU 0) (.node (nU 0) (.node (nU 0) (lA (nU 0) 15) (fA 16)) (.node (nU 0) (lA (nU
  0) 15) (fA 16))) (.node (nU 0) (.node (nU 0) (lA (nU 0) 15) (fA 16)) (.node (nU 0) (lA (nU 0) 15) (fA 16))))) (.node (nU 0) (.node (nU 0) (.node (nU 0) (.node (nU 0) (lA (nU 0) 15)
  (fA 16)) (.node (nU 0) (lA (nU 0) 15) (fA 16))) (.node (nU 0) (.node (nU 0) (lA (nU 0) 15) (fA 16)) (.node (nU 0) (lA (nU 0) 15) (fA 16)))) (.node (nU 0) (.node (nU 0) (.node (nU
  0) (lA (nU 0) 15) (fA 16)) (.node (nU 0) (lA (nU 0) 15) (fA 16))) (.node (nU 0) (.node (nU 0) (lA (nU 0) 15) (fA 16)) (.node (nU 0) (lA (nU 0) 15) (fA 16)))))))) (.node (nU 1088)
  (.node (nU 0) (.node (nU 0) (.node (nU 0) (.node (nU 0) (.node (nU 0) (.node (nU 3) (lA (nU 0) 15) (fA 16)) (.node (nU 0) (lA (nU 0) 15) (fA 16))) (.node (nU 0) (.node (nU 0) (lA
  (nU 0) 15) (fA 16)) (.node (nU 0) (lA (nU 0) 15) (fA 16)))) (.node (nU 0) (.node (nU 0) (.node (nU 0) (lA (nU 0) 15) (fA 16)) (.node (nU 0) (lA (nU 0) 15) (fA 16))) (.node (nU 0)
  (.node (nU 0) (lA (nU 0) 15) (fA 16)) (.node (nU 0) (lA (nU 0) 15) (fA 16))))) (.node (nU 0) (.node (nU 0) (.node (nU 0) (.node (nU 5495893775785918464) (lA (nU 0) 15) (fA 16))
  (.node (nU 0) (lA (nU 0) 15) (fA 16))) (.node (nU 0) (.node (nU 0) (lA (nU 0) 15) (fA 16)) (.node (nU 0) (lA (nU 0) 15) (fA 16)))) (.node (nU 0) (.node (nU 0) (.node (nU 0) (lA (nU
  0) 15) (fA 16)) (.node (nU 0) (lA (nU 0) 15) (fA 16))) (.node (nU 0) (.node (nU 0) (lA (nU 0) 15) (fA 16)) (.node (nU 0) (lA (nU 0) 15) (fA 16)))))) (.node (nU 0) (.node (nU 0)
  (.node (nU 0) (.node (nU 0) (.node (nU 0) (lA (nU 0) 15) (fA 16)) (.node (nU 0) (lA (nU 0) 15) (fA 16))) (.node (nU 0) (.node (nU 0) (lA (nU 0) 15) (fA 16)) (.node (nU 0) (lA (nU
  0) 15) (fA 16)))) (.node (nU 0) (.node (nU 0) (.node (nU 0) (lA (nU 0) 15) (fA 16)) (.node (nU 0) (lA (nU 0) 15) (fA 16))) (.node (nU 0) (.node (nU 0) (lA (nU 0) 15) (fA 16))
  (.node (nU 0) (lA (nU 0) 15) (fA 16))))) (.node (nU 0) (.node (nU 0) (.node (nU 0) (.node (nU 1088) (lA (nU 0) 15) (fA 16)) (.node (nU 0) (lA (nU 0) 15) (fA 16))) (.node (nU 0)
  (.node (nU 0) (lA (nU 0) 15) (fA 16)) (.node (nU 0) (lA (nU 0) 15) (fA 16)))) (.node (nU 0) (.node (nU 0) (.node (nU 0) (lA (nU 0) 15) (fA 16)) (.node (nU 0) (lA (nU 0) 15) (fA
  16))) (.node (nU 0) (.node (nU 0) (lA (nU 0) 15) (fA 16)) (.node (nU 0) (lA (nU 0) 15) (fA 16))))))) (.node (nU 0) (.node (nU 0) (.node (nU 0) (.node (nU 0) (.node (nU 0) (.node
  (nU 0) (lA (nU 0) 15) (fA 16)) (.node (nU 0) (lA (nU 0) 15) (fA 16))) (.node (nU 0) (.node (nU 0) (lA (nU 0) 15) (fA 16)) (.node (nU 0) (lA (nU 0) 15) (fA 16)))) (.node (nU 0)
  (.node (nU 0) (.node (nU 0) (lA (nU 0) 15) (fA 16)) (.node (nU 0) (lA (nU 0) 15) (fA 16))) (.node (nU 0) (.node (nU 0) (lA (nU 0) 15) (fA 16)) (.node (nU 0) (lA (nU 0) 15) (fA
  16))))) (.node (nU 0) (.node (nU 0) (.node (nU 0) (.node (nU 0) (lA (nU 0) 15) (fA 16)) (.node (nU 0) (lA (nU 0) 15) (fA 16))) (.node (nU 0) (.node (nU 0) (lA (nU 0) 15) (fA 16))
  (.node (nU 0) (lA (nU 0) 15) (fA 16)))) (.node (nU 0) (.node (nU 0) (.node (nU 0) (lA (nU 0) 15) (fA 16)) (.node (nU 0) (lA (nU 0) 15) (fA 16))) (.node (nU 0) (.node (nU 0) (lA (nU
  0) 15) (fA 16)) (.node (nU 0) (lA (nU 0) 15) (fA 16)))))) (.node (nU 0) (.node (nU 0) (.node (nU 0) (.node (nU 0) (.node (nU 0) (lA (nU 0) 15) (fA 16)) (.node (nU 0) (lA (nU 0) 15)
  (fA 16))) (.node (nU 0) (.node (nU 0) (lA (nU 0) 15) (fA 16)) (.node (nU 0) (lA (nU 0) 15) (fA 16)))) (.node (nU 0) (.node (nU 0) (.node (nU 0) (lA (nU 0) 15) (fA 16)) (.node (nU
  0) (lA (nU 0) 15) (fA 16))) (.node (nU 0) (.node (nU 0) (lA (nU 0) 15) (fA 16)) (.node (nU 0) (lA (nU 0) 15) (fA 16))))) (.node (nU 0) (.node (nU 0) (.node (nU 0) (.node (nU 0) (lA
  (nU 0) 15) (fA 16)) (.node (nU 0) (lA (nU 0) 15) (fA 16))) (.node (nU 0) (.node (nU 0) (lA (nU 0) 15) (fA 16)) (.node (nU 0) (lA (nU 0) 15) (fA 16)))) (.node (nU 0) (.node (nU 0)
  (.node (nU 0) (lA (nU 0) 15) (fA 16)) (.node (nU 0) (lA (nU 0) 15) (fA 16))) (.node (nU 0) (.node (nU 0) (lA (nU 0) 15) (fA 16)) (.node (nU 0) (lA (nU 0) 15) (fA 16))))))))) false
  false) 14)) (fD 16)) (fD 17)) (fD 18))) (.node .dead (.node .dead (.node .dead (fD 17) (.node .dead (.node .dead (fD 15) (lD (.cells 26 1 5 (.node (nU 1280) (.node (nU 1664) (lA
  (nU 1856) 21) (fA 22)) (.node (nU 1472) (lA (nU 1088) 21) (fA 22))) false false) 14)) (fD 16))) (fD 18)) (.node .dead (.node .dead (.node .dead (.node .dead (fD 15) (lD (.cells 271
  1 1 (lA .nilsl 23) true false) 14)) (fD 16)) (fD 17)) (fD 18))))) (.node (.cells 176 22 22 (.node (nU 1088) (.node (nI 0) (.node (nU 0) (.node (nU 0) (lA (nU 0) 19) (fA 20)) (.node
  (nU 0) (lA (nU 0) 19) (fA 20))) (.node (nU 1088) (.node (nU 0) (lA (nU 0) 19) (fA 20)) (.node (nU 0) (lA (nU 0) 19) (fA 20)))) (.node (nU 0) (.node (nU 0) (.node (nU 0) (lA (nU 0)
  19) (fA 20)) (.node (nU 0) (lA (nU 0) 19) (fA 20))) (.node (nU 0) (.node (nU 0) (lA (nU 0) 19) (fA 20)) (lA (nU 0) 20)))) false false) (fD 21) (.node (.map [] 0) (.node .dead
  (.node .dead (fD 18) (.node .dead (fD 17) (.node .dead (.node .dead (fD 15) (lD (.cells 125 3 3 (.node (.ptr 14 0) (lA (.ptr 792 0) 22) (lA (.ptr 868 0) 22)) true false) 14)) (fD
  16)))) (.node .dead (.node .dead (.node .dead (.node .dead (fD 15) (lD (.cells 25 1 384 (.node (nU 5929342154728227142) (.node (nU 3072) (.node (nU 18446744073709548543) (.node (nU
  0) (.node (nU 0) (.node (nU 0) (.node (nU 0) (.node (nU 0) (lA (nU 0) 15) (lA (nU 0) 15)) (.node (nU 0) (lA (nU 0) 15) (fA 16))) (.node (nU 0) (.node (nU 0) (lA (nU 0) 15) (fA 16))
  (.node (nU 0) (lA (nU 0) 15) (fA 16)))) (.node (nU 0) (.node (nU 0) (.node (nU 0) (lA (nU 0) 15) (fA 16)) (.node (nU 0) (lA (nU 0) 15) (fA 16))) (.node (nU 0) (.node (nU 0) (lA (nU
  0) 15) (fA 16)) (.node (nU 0) (lA (nU 0) 15) (fA 16))))) (.node (nU 0) (.node (nU 0) (.node (nU 0) (.node (nU 0) (lA (nU 0) 15) (fA 16)) (.node (nU 0) (lA (nU 0) 15) (fA 16)))
  (.node (nU 0) (.node (nU 0) (lA (nU 0) 15) (fA 16)) (.node (nU 0) (lA (nU 0) 15) (fA 16)))) (.node (nU 0) (.node (nU 0) (.node (nU 0) (lA (nU 0) 15) (fA 16)) (.node (nU 0) (lA (nU
  0) 15) (fA 16))) (.node (nU 0) (.node (nU 0) (lA (nU 0) 15) (fA 16)) (.node (nU 0) (lA (nU 0) 15) (fA 16)))))) (.node (nU 0) (.node (nU 0) (.node (nU 0) (.node (nU 0) (.node (nU 0)
  (lA (nU 0) 15) (fA 16)) (.node (nU 0) (lA (nU 0) 15) (fA 16))) (.node (nU 0) (.node (nU 0) (lA (nU 0) 15) (fA 16)) (.node (nU 0) (lA (nU 0) 15) (fA 16)))) (.node (nU 0) (.node (nU
  0) (.node (nU 0) (lA (nU 0) 15) (fA 16)) (.node (nU 0) (lA (nU 0) 15) (fA 16))) (.node (nU 0) (.node (nU 0) (lA (nU 0) 15) (fA 16)) (.node (nU 0) (lA (nU 0) 15) (fA 16))))) (.node
  (nU 0) (.node (nU 0) (.node (nU 0) (.node (nU 0) (lA (nU 0) 15) (fA 16)) (.node (nU 0) (lA (nU 0) 15) (fA 16))) (.node (nU 0) (.node (nU 0) (lA (nU 0) 15) (fA 16)) (.node (nU 0)
  (lA (nU 0) 15) (fA 16)))) (.node (nU 0) (.node (nU 0) (.node (nU 0) (lA (nU 0) 15) (fA 16)) (.node (nU 0) (lA (nU 0) 15) (fA 16))) (.node (nU 0) (.node (nU 0) (lA (nU 0) 15) (fA
  16)) (.node (nU 0) (lA (nU 0) 15) (fA 16))))))) (.node (nU 0) (.node (nU 0) (.node (nU 0) (.node (nU 0) (.node (nU 0) (.node (nU 1) (lA (nU 0) 15) (fA 16)) (.node (nU 0) (lA (nU 0)
  15) (fA 16))) (.node (nU 0) (.node (nU 0) (lA (nU 0) 15) (fA 16)) (.node (nU 0) (lA (nU 0) 15) (fA 16)))) (.node (nU 0) (.node (nU 0) (.node (nU 0) (lA (nU 0) 15) (fA 16)) (.node
  (nU 0) (lA (nU 0) 15) (fA 16))) (.node (nU 0) (.node (nU 0) (lA (nU 0) 15) (fA 16)) (.node (nU 0) (lA (nU 0) 15) (fA 16))))) (.node (nU 0) (.node (nU 0) (.node (nU 0) (.node (nU 0)
  (lA (nU 0) 15) (fA 16)) (.node (nU 0) (lA (nU 0) 15) (fA 16))) (.node (nU 0) (.node (nU 0) (lA (nU 0) 15) (fA 16)) (.node (nU 0) (lA (nU 0) 15) (fA 16)))) (.node (nU 0) (.node (nU
  0) (.node (nU 0) (lA (nU 0) 15) (fA 16)) (.node (nU 0) (lA (nU 0) 15) (fA 16))) (.node (nU 0) (.node (nU 0) (lA (nU 0) 15) (fA 16)) (.node (nU 0) (lA (nU 0) 15) (fA 16)))))) (.node
  (nU 0) (.node (nU 0) (.node (nU 0) (.node (nU 0) (.node (nU 0) (lA (nU 0) 15) (fA 16)) (.node (nU 0) (lA (nU 0) 15) (fA 16))) (.node (nU 0) (.node (nU 0) (lA (nU 0) 15) (fA 16))
  (.node (nU 0) (lA (nU 0) 15) (fA 16)))) (.node (nU 0) (.node (nU 0) (.node (nU 0) (lA (nU 0) 15) (fA 16)) (.node (nU 0) (lA (nU 0) 15) (fA 16))) (.node (nU 0) (.node (nU 0) (lA (nU
  0) 15) (fA 16)) (.node (nU 0) (lA (nU 0) 15) (fA 16))))) (.node (nU 0) (.node (nU 0) (.node (nU 0) (.node (nU 0) (lA (nU 0) 15) (fA 16)) (.node (nU 0) (lA (nU 0) 15) (fA 16)))
  (.node (nU 0) (.node (nU 0) (lA (nU 0) 15) (fA 16)) (.node (nU 0) (lA (nU 0) 15) (fA 16)))) (.node (nU 0) (.node (nU 0) (.node (nU 0) (lA (nU 0) 15) (fA 16)) (.node (nU 0) (lA (nU
  0) 15) (fA 16))) (.node (nU 0) (.node (nU 0) (lA (nU 0) 15) (fA 16)) (.node (nU 0) (lA (nU 0) 15) (fA 16)))))))) (.node (nU 1088) (.node (nU 0) (.node (nU 0) (.node (nU 0) (.node
  (nU 0) (.node (nU 0) (.node (nU 3) (lA (nU 0) 15) (fA 16)) (.node (nU 0) (lA (nU 0) 15) (fA 16))) (.node (nU 0) (.node (nU 0) (lA (nU 0) 15) (fA 16)) (.node (nU 0) (lA (nU 0) 15)
  (fA 16)))) (.node (nU 0) (.node (nU 0) (.node (nU 0) (lA (nU 0) 15) (fA 16)) (.node (nU 0) (lA (nU 0) 15) (fA 16))) (.node (nU 0) (.node (nU 0) (lA (nU 0) 15) (fA 16)) (.node (nU
  0) (lA (nU 0) 15) (fA 16))))) (.node (nU 0) (.node (nU 0) (.node (nU 0) (.node (nU 5495893775785918464) (lA (nU 0) 15) (fA 16)) (.node (nU 0) (lA (nU 0) 15) (fA 16))) (.node (nU 0)
  (.node (nU 0) (lA (nU 0) 15) (fA 16)) (.node (nU 0) (lA (nU 0) 15) (fA 16)))) (.node (nU 0) (.node (nU 0) (.node (nU 0) (lA (nU 0) 15) (fA 16)) (.node (nU 0) (lA (nU 0) 15) (fA
  16))) (.node (nU 0) (.node (nU 0) (lA (nU 0) 15) (fA 16)) (.node (nU 0) (lA (nU 0) 15) (fA 16)))))) (.node (nU 0) (.node (nU 0) (.node (nU 0) (.node (nU 0) (.node (nU 0) (lA (nU 0)
  15) (fA 16)) (.node (nU 0) (lA (nU 0) 15) (fA 16))) (.node (nU 0) (.node (nU 0) (lA (nU 0) 15) (fA 16)) (.node (nU 0) (lA (nU 0) 15) (fA 16)))) (.node (nU 0) (.node (nU 0) (.node
  (nU 0) (lA (nU 0) 15) (fA 16)) (.node (nU 0) (lA (nU 0) 15) (fA 16))) (.node (nU 0) (.node (nU 0) (lA (nU 0) 15) (fA 16)) (.node (nU 0) (lA (nU 0) 15) (fA 16))))) (.node (nU 0)
  (.node (nU 0) (.node (nU 0) (.node (nU 1088) (lA (nU 0) 15) (fA 16)) (.node (nU 0) (lA (nU 0) 15) (fA 16))) (.node (nU 0) (.node (nU 0) (lA (nU 0) 15) (fA 16)) (.node (nU 0) (lA
  (nU 0) 15) (fA 16)))) (.node (nU 0) (.node (nU 0) (.node (nU 0) (lA (nU 0) 15) (fA 16)) (.node (nU 0) (lA (nU 0) 15) (fA 16))) (.node (nU 0) (.node (nU 0) (lA (nU 0) 15) (fA 16))
  (.node (nU 0) (lA (nU 0) 15) (fA 16))))))) (.node (nU 0) (.node (nU 0) (.node (nU 0) (.node (nU 0) (.node (nU 0) (.node (nU 0) (lA (nU 0) 15) (fA 16)) (.node (nU 0) (lA (nU 0) 15)
  (fA 16))) (.node (nU 0) (.node (nU 0) (lA (nU 0) 15) (fA 16)) (.node (nU 0) (lA (nU 0) 15) (fA 16)))) (.node (nU 0) (.node (nU 0) (.node (nU 0) (lA (nU 0) 15) (fA 16)) (.node (nU
  0) (lA (nU 0) 15) (fA 16))) (.node (nU 0) (.node (nU 0) (lA (nU 0) 15) (fA 16)) (.node (nU 0) (lA (nU 0) 15) (fA 16))))) (.node (nU 0) (.node (nU 0) (.node (nU 0) (.node (nU 0) (lA
  (nU 0) 15) (fA 16)) (.node (nU 0) (lA (nU 0) 15) (fA 16))) (.node (nU 0) (.node (nU 0) (lA (nU 0) 15) (fA 16)) (.node (nU 0) (lA (nU 0) 15) (fA 16)))) (.node (nU 0) (.node (nU 0)
  (.node (nU 0) (lA (nU 0) 15) (fA 16)) (.node (nU 0) (lA (nU 0) 15) (fA 16))) (.node (nU 0) (.node (nU 0) (lA (nU 0) 15) (fA 16)) (.node (nU 0) (lA (nU 0) 15) (fA 16)))))) (.node
  (nU 0) (.node (nU 0) (.node (nU 0) (.node (nU 0) (.node (nU 0) (lA (nU 0) 15) (fA 16)) (.node (nU 0) (lA (nU 0) 15) (fA 16))) (.node (nU 0) (.node (nU 0) (lA (nU 0) 15) (fA 16))
  (.node (nU 0) (lA (nU 0) 15) (fA 16)))) (.node (nU 0) (.node (nU 0) (.node (nU 0) (lA (nU 0) 15) (fA 16)) (.node (nU 0) (lA (nU 0) 15) (fA 16))) (.node (nU 0) (.node (nU 0) (lA (nU
  0) 15) (fA 16)) (.node (nU 0) (lA (nU 0) 15) (fA 16))))) (.node (nU 0) (.node (nU 0) (.node (nU 0) (.node (nU 0) (lA (nU 0) 15) (fA 16)) (.node (nU 0) (lA (nU 0) 15) (fA 16)))
  (.node (nU 0) (.node (nU 0) (lA (nU 0) 15) (fA 16)) (.node (nU 0) (lA (nU 0) 15) (fA 16)))) (.node (nU 0) (.node (nU 0) (.node (nU 0) (lA (nU 0) 15) (fA 16)) (.node (nU 0) (lA (nU
  0) 15) (fA 16))) (.node (nU 0) (.node (nU 0) (lA (nU 0) 15) (fA 16)) (.node (nU 0) (lA (nU 0) 15) (fA 16))))))))) false false) 14)) (fD 16)) (fD 17)) (fD 18))) (.node .dead (fD 19)
  (.node .dead (.node .dead (.node .dead (.node .dead (fD 15) (lD (.cells 271 1 1 (lA (.sl 843 0 0 4 (.u 843 0)) 23) true false) 14)) (fD 16)) (fD 17)) (fD 18)))))) (.node (.cells 50
  8 8 (.node (.sl 1 0 0 3072 (.k 3072)) (.node (nI 2) (.node (nI 0) (lA (.sl 12 0 0 1 (.u 12 0)) 20) (fA 21)) (lA (nI 1) 21)) (.node (nI 1) (lA (nI 0) 21) (lA (nI 1) 21))) true
  false) (.node .dead (.node .dead (fD 20) (.node .dead (fD 19) (.node .dead (.node .dead (.node .dead (.node .dead (fD 15) (lD (.cells 198 7 7 (.node (nI 3072) (.node (.sl 790 0 0 3
  (.k 3)) (lA (.ptr 795 0) 21) (lA (.ptr 797 0) 21)) (.node (.ptr 794 0) (lA (.ptr 796 0) 21) (lA (.map 791) 21))) true false) 14)) (fD 16)) (fD 17)) (fD 18)))) (.node (.cells 170 1
  1 (lA (.sl 5 0 0 1 (.u 5 0)) 23) false false) (.node .dead (.node .dead (fD 18) (.node .dead (fD 17) (.node .dead (.node .dead (fD 15) (lD (.cells 255 66 66 (.node (nI 1) (.node
  (.map 867) (.node (nU 0) (.node (nU 0) (.node (nU 0) (.node (nU 0) (lA (nU 0) 17) (fA 18)) (lA (nU 0) 18)) (.node (nU 0) (lA (nU 0) 18) (lA (nU 0) 18))) (.node (nU 0) (.node (nU 0)
  (lA (nU 0) 18) (lA (nU 0) 18)) (.node (nU 0) (lA (nU 0) 18) (lA (nU 0) 18)))) (.node (nU 0) (.node (nU 0) (.node (nU 0) (.node (nU 0) (lA (nU 0) 17) (fA 18)) (lA (nU 0) 18)) (.node
  (nU 0) (lA (nU 0) 18) (lA (nU 0) 18))) (.node (nU 0) (.node (nU 0) (lA (nU 0) 18) (lA (nU 0) 18)) (.node (nU 0) (lA (nU 0) 18) (lA (nU 0) 18))))) (.node (nU 0) (.node (nU 0) (.node
  (nU 0) (.node (nU 0) (.node (nU 0) (lA (nU 0) 17) (fA 18)) (lA (nU 0) 18)) (.node (nU 0) (lA (nU 0) 18) (lA (nU 0) 18))) (.node (nU 0) (.node (nU 0) (lA (nU 0) 18) (lA (nU 0) 18))
  (.node (nU 0) (lA (nU 0) 18) (lA (nU 0) 18)))) (.node (nU 0) (.node (nU 0) (.node (nU 0) (lA (nU 0) 18) (lA (nU 0) 18)) (.node (nU 0) (lA (nU 0) 18) (lA (nU 0) 18))) (.node (nU 0)
  (.node (nU 0) (lA (nU 0) 18) (lA (nU 0) 18)) (.node (nU 0) (lA (nU 0) 18) (lA (nU 0) 18)))))) true false) 14)) (fD 16)))) (fD 19)) (.node .dead (fD 19) (.node .dead (.node .dead
  (.node .dead (.node .dead (fD 15) (lD (.cells 271 1 1 (lA .nilsl 23) true false) 14)) (fD 16)) (fD 17)) (fD 18))))) (.node .dead (.node .dead (fD 20) (.node .dead (fD 19) (.node
  .dead (.node .dead (.node .dead (.node .dead (fD 15) (lD (.cells 271 1 1 (lA .nilsl 23) true false) 14)) (fD 16)) (fD 17)) (fD 18)))) (.node (.cells 128 7 7 (.node (.sl 789 0 0 384
  (.u 789 0)) (.node (.sl 787 0 0 384 (.u 787 0)) (lA (nU 0) 21) (lA (nU 0) 21)) (.node (.map 13) (lA (nU 0) 21) (lA (nU 0) 21))) true false) (.node .dead (fD 19) (.node .dead (.node
  .dead (.node .dead (.node .dead (fD 15) (lD (.cells 205 2 6 (.node (nI 0) (.node (nU 0) (lA (nU 1) 21) (lA (nU 0) 21)) (.node (nI 3) (lA (nI 0) 21) (fA 22))) true false) 14)) (fD
  16)) (fD 17)) (fD 18))) (fD 20))))), 870⟩,
  [.reg (opsAt Tryz.f4 [1, 1, 1, 0]) ((opsAt Tryz.f4 [1, 1, 1, 0]).toList.drop 5), .code (codeAt Tryz.f4 [1, 1, 1, 1])]⟩
set_option maxRecDepth 1000000 in
theorem second (a0 a1 : Int) (v2 : V) : cutR [1, 2, 5, 12, 13, 14, 787, 789, 790, 791, 792, 794, 795, 796, 797, 843, 867, 868, 869] (iterN (stepF ctx) 17751 (p1 a0 a1 v2)) = .inl (p2 a0 a1 v2) := by kernel_rfl
end Go.Proofs.YtelipbpnplcofaaGreat.parentArgs
