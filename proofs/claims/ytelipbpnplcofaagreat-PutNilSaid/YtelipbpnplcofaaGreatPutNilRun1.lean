/-
  PROVED HERE: parts of the run of the evaluator from the call of PutNil, by the kernel.
  Conditions: none.
-/
import Derived.Test.YtelipbpnplcofaaGreatRows
import Derived.KernelRfl
import Derived.Test.YtelipbpnplcofaaGreatLevD
namespace Go.Proofs.YtelipbpnplcofaaGreat.putNil
open Go.Lev
/-- the evaluator's tables -/
noncomputable def ctx : Ctx := ctxOf Tryz.prog
set_option maxRecDepth 1000000 in
theorem cloneFirst : (Tryz.f367.name == "runtime.NumGoroutine") = false := by kernel_rfl
set_option maxRecDepth 1000000 in
theorem cloneNext : Extern.findNext Tryz.f367 = none := by kernel_rfl
set_option maxRecDepth 1000000 in
theorem cloneFind : Extern.find Tryz.f367 = some Extern.MapsClone.clone := by kernel_rfl
/-- the evaluator's tables say what the program's say -/
theorem tables : CtxOk Tryz.prog ctx :=
  ctxOk_clone (n := 367) (by kernel_rfl) (by kernel_rfl) (by kernel_rfl) Tryz.func367 cloneFirst cloneNext cloneFind
/-- where the run stands at the end of part 1 -/
noncomputable def s1 : St :=
  ⟨⟨147, 31, [], .normal, none,
  [⟨44, 53, [⟨(.coll 21), []⟩], .normal, none, .run, (.node (.sl 4 0 0 3072 (.k 3072)) (.node undefV (.node (nI 0) (.node undefV (lU (.sl 4 0 0 3072
  (.k 3072)) 19) (fU 20)) (lU (.bool false) 20)) (.node undefV (lU (nI 3072) 20) (lU (.agg [.nilsl, .nilsl, (.map 16), (nU 0), (nU 0), (nU 0), (nU 0)]) 20))) (.node .nil (.node (.ptr
  18 0) (.node (.sl 4 0 0 3072 (.k 3072)) (lU (.fn (.func 147) [] [(.ptr 19 0), (.ptr 20 0)]) 19) (fU 20)) (lU (.map 16) 20)) (.node undefV (lU (.bool true) 20) (lU (.ptr 17 0)
  20)))), [.rf 22, .blk 0, .code (codeAt Tryz.f44 [1, 1, 1, 1])]⟩,
    ⟨13, 37, [], .normal, none, .run, (.node (.sl 4 0 0 3072 (.k 3072)) (lU (nI 1) 22) (.node undefV (.node .nil
  (fU 21) (lU (.sl 4 0 0 3072 (.k 3072)) 20)) (fU 22))), [.reg (opsAt Tryz.f13 [1, 0]) ((opsAt Tryz.f13 [1, 0]).toList.drop 1), .code (codeAt Tryz.f13 [1, 1])]⟩,
    ⟨23, 16, [],
  .normal, none, .run, (.node (.agg [(nI 2), .nilsl, (nI 4), (nI 0)]) (.node (nI 1) (.node undefV (lU (.ptr 5 0) 20) (lU (.ptr 5 0) 20)) (.node (.ptr 5 0) (lU (.bool false) 20) (lU
  (.sl 4 0 0 3072 (.k 3072)) 20))) (.node (.ptr 2 0) (.node .nil (lU (.ptr 5 0) 20) (lU (.ptr 5 0) 20)) (.node (.agg [(nI 2), .nilsl, (nI 4), (nI 0)]) (lU (.ptr 5 0) 20) (lU (nI 1)
  20)))), [.reg (opsAt Tryz.f23 [1, 1, 1, 0]) ((opsAt Tryz.f23 [1, 1, 1, 0]).toList.drop 5), .code (codeAt Tryz.f23 [1, 1, 0, 1, 0, 1])]⟩,
    ⟨6, 100, [], .normal, none, .run,
  (.node (.bool false) (.node .nil (.node (.bool true) (.node (.ptr 1 0) (lU (.tup [(.bool true), (nI 1)]) 19) (lU (nI 1) 19)) (.node undefV (lU (nI 1) 19) (lU (.tup [(.bool true),
  (nI 1)]) 19))) (.node (.bool true) (.node (nI 1) (lU (.tup [(.bool true), (nI 1)]) 19) (lU (.tup [(.bool true), (nI 1)]) 19)) (.node undefV (lU (.tup [(.bool true), (nI 1)]) 19)
  (lU (nI 1) 19)))) (.node (.ptr 0 0) (.node (nI 1) (.node (.bool true) (lU .nil 19) (lU (.ptr 1 0) 19)) (.node undefV (lU (.tup [(.bool true), (nI 1)]) 19) (lU (.bool true) 19)))
  (.node (nI 1) (.node undefV (lU (.bool true) 19) (lU (.ptr 1 0) 19)) (.node undefV (lU (.bool true) 19) (lU (.agg [(nI 2), .nilsl, (nI 4), (nI 0)]) 19))))), [.reg (opsAt Tryz.f6
  [1, 1, 1, 1, 1, 1, 1, 0]) ((opsAt Tryz.f6 [1, 1, 1, 1, 1, 1, 1, 0]).toList.drop 1), .code (codeAt Tryz.f6 [1, 1, 1, 1, 1, 1, 1, 1])]⟩]⟩,
  .run,
  (.node (.yld 22) (.node (.ptr 19
  0) (.node undefV (.node (.sl 4 0 0 3072 (.k 3072)) (lU (nI 1936) 19) (lU (nI 8) 19)) (.node (nI 8) (lU (.yld 22) 19) (lU (nI 1936) 19))) (.node (nI 8) (.node (.bool true) (lU (nI
  1136) 19) (lU (nI 1928) 19)) (.node (nI 8) (lU (nI 1928) 19) (lU (.bool true) 19)))) (.node (.ptr 20 0) (.node (nI 1936) (.node (nI 3072) (lU (.sl 4 1936 0 1136 (.k 1136)) 19) (lU
  (nI 1936) 19)) (.node (nI 1936) (lU (.sl 4 0 0 3072 (.k 3072)) 19) (lU (.sl 4 1928 0 8 (.k 8)) 19))) (.node (nI 1936) (.node (nI 1928) (lU (nI 8) 19) (lU (nI 8) 19)) (.node (.sl 4
  0 0 3072 (.k 3072)) (lU (nI 1928) 19) (lU (.bool false) 19))))),
  ⟨(.node (.cells 74 16 16 (.node .nil (.node (nI 0) (.node (.str (bs [])) (.node .nil (lA .nilsl 19) (fA 20)) (lA
  (.bool false) 20)) (.node (nU 0) (lA .nilif 20) (lA (nI 0) 20))) (.node (nU 0) (.node (nU 0) (lA .nil 20) (lA (nI 0) 20)) (.node .nil (lA .nilfn 20) (lA (.str (bs [])) 20)))) true
  false) (.node (.cells 74 16 16 (.node .nil (.node (nI 0) (.node (.str (bs [120])) (.node .nil (lA .nilsl 19) (fA 20)) (lA (.bool true) 20)) (.node (nU 0) (lA .nilif 20) (lA (nI 1)
  20))) (.node (nU 1) (.node (nU 0) (lA .nil 20) (lA (nI 1) 20)) (.node .nil (lA (.fn (.func 56) [(.ptr 1 0)] []) 20) (lA (.str (bs [])) 20)))) true false) (.node .dead (.node .dead
  (lD (.cells 170 1 1 (lA (.sl 8 0 0 1 (.u 8 0)) 23) false false) 19) (fD 20)) (.node .dead (lD (.cells 47 1 1 (lA (.sl 4 0 0 3072 (.k 3072)) 23) true false) 19) (fD 20))) (.node
  (.cells 50 8 8 (.node (.sl 4 0 0 3072 (.k 3072)) (.node (nI 2) (.node (nI 0) (lA (.sl 15 0 0 1 (.u 15 0)) 20) (fA 21)) (lA (nI 1) 21)) (.node (nI 1) (lA (nI 0) 21) (lA (nI 1) 21)))
  true false) (.node .dead (lD (.cells 128 7 7 (.node .nilsl (.node (.sl 506 0 0 242 (.u 506 0)) (lA (nU 0) 21) (lA (nU 0) 21)) (.node (.map 16) (lA (nU 0) 21) (lA (nU 0) 21))) true
  false) 19) (fD 20)) (.node .dead (lD (.defd (some [])) 19) (fD 20)))) (.node (.cells 45 4 4 (.node (nI 2) (.node .nilsl (lA (nI 0) 21) (fA 22)) (lA (nI 4) 22)) true false) (.node
  (.cells 5 1 3072 (.node (nB 70) (.node (nB 65) (.node (nB 84) (.node (nB 82) (.node (nB 0) (.node (nB 255) (.node (nB 0) (.node (nB 0) (.node (nB 0) (fB 15) (lB (nB 0) 14)) (.node
  (nB 0) (lB (nB 0) 14) (fB 15))) (.node (nB 0) (fB 16) (.node (nB 0) (lB (nB 0) 14) (fB 15)))) (.node (nB 0) (.node (nB 0) (fB 16) (.node (nB 0) (lB (nB 0) 14) (fB 15))) (.node (nB
  0) (.node (nB 0) (lB (nB 0) 14) (fB 15)) (.node (nB 0) (lB (nB 0) 14) (fB 15))))) (.node (nB 0) (.node (nB 0) (.node (nB 0) (.node (nB 0) (lB (nB 0) 14) (fB 15)) (.node (nB 0) (lB
  (nB 0) 14) (fB 15))) (.node (nB 0) (.node (nB 0) (lB (nB 0) 14) (fB 15)) (.node (nB 0) (lB (nB 0) 14) (fB 15)))) (.node (nB 0) (.node (nB 0) (fB 16) (.node (nB 0) (lB (nB 0) 14)
  (fB 15))) (.node (nB 0) (.node (nB 0) (lB (nB 0) 14) (fB 15)) (.node (nB 0) (lB (nB 0) 14) (fB 15)))))) (.node (nB 0) (.node (nB 0) (.node (nB 0) (.node (nB 0) (.node (nB 0) (lB
  (nB 0) 14) (fB 15)) (.node (nB 0) (lB (nB 0) 14) (fB 15))) (.node (nB 0) (.node (nB 0) (.node (nB 0) (lB (nB 76) 13) (fB 14)) (fB 15)) (.node (nB 0) (lB (nB 0) 14) (fB 15))))
  (.node (nB 0) (.node (nB 0) (fB 16) (.node (nB 0) (lB (nB 0) 14) (fB 15))) (.node (nB 0) (.node (nB 0) (lB (nB 0) 14) (fB 15)) (.node (nB 0) (lB (nB 0) 14) (fB 15))))) (.node (nB
  0) (.node (nB 0) (.node (nB 0) (fB 16) (.node (nB 0) (lB (nB 0) 14) (fB 15))) (.node (nB 0) (.node (nB 0) (lB (nB 0) 14) (fB 15)) (.node (nB 0) (lB (nB 0) 14) (fB 15)))) (.node (nB
  0) (.node (nB 0) (fB 16) (.node (nB 0) (lB (nB 0) 14) (fB 15))) (.node (nB 0) (.node (nB 0) (lB (nB 0) 14) (fB 15)) (.node (nB 0) (lB (nB 0) 14) (fB 15))))))) (.node (nB 0) (.node
  (nB 0) (.node (nB 0) (.node (nB 0) (.node (nB 0) (.node (nB 0) (lB (nB 0) 14) (fB 15)) (.node (nB 0) (lB (nB 0) 14) (fB 15))) (.node (nB 0) (.node (nB 0) (.node (nB 0) (lB (nB 69)
  13) (fB 14)) (fB 15)) (.node (nB 0) (lB (nB 0) 14) (fB 15)))) (.node (nB 0) (.node (nB 0) (fB 16) (.node (nB 0) (lB (nB 0) 14) (fB 15))) (.node (nB 0) (.node (nB 0) (lB (nB 0) 14)
  (fB 15)) (.node (nB 0) (lB (nB 0) 14) (fB 15))))) (.node (nB 0) (.node (nB 0) (.node (nB 0) (fB 16) (.node (nB 0) (lB (nB 0) 14) (fB 15))) (.node (nB 0) (.node (nB 0) (lB (nB 0)
  14) (fB 15)) (.node (nB 0) (lB (nB 0) 14) (fB 15)))) (.node (nB 0) (.node (nB 0) (fB 16) (.node (nB 0) (lB (nB 0) 14) (fB 15))) (.node (nB 0) (.node (nB 0) (lB (nB 0) 14) (fB 15))
  (.node (nB 0) (lB (nB 0) 14) (fB 15)))))) (.node (nB 255) (.node (nB 0) (.node (nB 0) (.node (nB 0) (.node (nB 0) (lB (nB 0) 14) (fB 15)) (.node (nB 0) (lB (nB 0) 14) (fB 15)))
  (.node (nB 0) (.node (nB 0) (lB (nB 0) 14) (fB 15)) (.node (nB 0) (lB (nB 0) 14) (fB 15)))) (.node (nB 0) (.node (nB 0) (fB 16) (.node (nB 0) (lB (nB 0) 14) (fB 15))) (.node (nB 0)
  (.node (nB 0) (lB (nB 0) 14) (fB 15)) (.node (nB 0) (lB (nB 0) 14) (fB 15))))) (.node (nB 0) (.node (nB 0) (.node (nB 0) (fB 16) (.node (nB 0) (lB (nB 0) 14) (fB 15))) (.node (nB
  0) (.node (nB 0) (lB (nB 0) 14) (fB 15)) (.node (nB 0) (lB (nB 0) 14) (fB 15)))) (.node (nB 0) (.node (nB 0) (fB 16) (.node (nB 0) (lB (nB 0) 14) (fB 15))) (.node (nB 0) (.node (nB
  0) (lB (nB 0) 14) (fB 15)) (.node (nB 0) (lB (nB 0) 14) (fB 15)))))))) (.node (nB 65) (.node (nB 12) (.node (nB 4) (.node (nB 0) (.node (nB 0) (.node (nB 0) (.node (nB 0) (lB (nB
  0) 14) (fB 15)) (.node (nB 0) (lB (nB 0) 14) (fB 15))) (.node (nB 0) (.node (nB 0) (lB (nB 0) 14) (fB 15)) (.node (nB 0) (lB (nB 0) 14) (fB 15)))) (.node (nB 0) (.node (nB 0) (fB
  16) (.node (nB 0) (lB (nB 0) 14) (fB 15))) (.node (nB 0) (.node (nB 0) (.node (nB 0) (lB (nB 4) 13) (fB 14)) (fB 15)) (.node (nB 0) (lB (nB 0) 14) (fB 15))))) (.node (nB 0) (.node
  (nB 0) (.node (nB 0) (fB 16) (.node (nB 0) (lB (nB 0) 14) (fB 15))) (.node (nB 0) (.node (nB 0) (lB (nB 0) 14) (fB 15)) (.node (nB 0) (lB (nB 0) 14) (fB 15)))) (.node (nB 0) (.node
  (nB 0) (fB 16) (.node (nB 0) (lB (nB 0) 14) (fB 15))) (.node (nB 0) (.node (nB 0) (lB (nB 0) 14) (fB 15)) (.node (nB 0) (lB (nB 0) 14) (fB 15)))))) (.node (nB 243) (.node (nB 0)
  (.node (nB 0) (.node (nB 0) (.node (nB 0) (lB (nB 0) 14) (fB 15)) (.node (nB 0) (lB (nB 0) 14) (fB 15))) (.node (nB 0) (.node (nB 0) (lB (nB 0) 14) (fB 15)) (.node (nB 0) (lB (nB
  0) 14) (fB 15)))) (.node (nB 0) (.node (nB 0) (fB 16) (.node (nB 0) (lB (nB 0) 14) (fB 15))) (.node (nB 0) (.node (nB 0) (lB (nB 0) 14) (fB 15)) (.node (nB 0) (lB (nB 0) 14) (fB
  15))))) (.node (nB 0) (.node (nB 0) (.node (nB 0) (fB 16) (.node (nB 0) (lB (nB 0) 14) (fB 15))) (.node (nB 0) (.node (nB 0) (lB (nB 0) 14) (fB 15)) (.node (nB 0) (lB (nB 0) 14)
  (fB 15)))) (.node (nB 0) (.node (nB 0) (fB 16) (.node (nB 0) (lB (nB 0) 14) (fB 15))) (.node (nB 0) (.node (nB 0) (lB (nB 0) 14) (fB 15)) (.node (nB 0) (lB (nB 0) 14) (fB 15)))))))
  (.node (nB 0) (.node (nB 0) (.node (nB 0) (.node (nB 0) (.node (nB 0) (.node (nB 0) (lB (nB 0) 14) (fB 15)) (.node (nB 0) (lB (nB 0) 14) (fB 15))) (.node (nB 0) (.node (nB 0)
  (.node (nB 0) (lB (nB 86) 13) (fB 14)) (fB 15)) (.node (nB 0) (lB (nB 0) 14) (fB 15)))) (.node (nB 0) (.node (nB 0) (fB 16) (.node (nB 0) (lB (nB 0) 14) (fB 15))) (.node (nB 0)
  (.node (nB 0) (lB (nB 0) 14) (fB 15)) (.node (nB 0) (lB (nB 0) 14) (fB 15))))) (.node (nB 0) (.node (nB 0) (.node (nB 0) (fB 16) (.node (nB 0) (lB (nB 0) 14) (fB 15))) (.node (nB
  0) (.node (nB 0) (lB (nB 0) 14) (fB 15)) (.node (nB 0) (lB (nB 0) 14) (fB 15)))) (.node (nB 0) (.node (nB 0) (fB 16) (.node (nB 0) (lB (nB 0) 14) (fB 15))) (.node (nB 0) (.node (nB
  0) (lB (nB 0) 14) (fB 15)) (.node (nB 0) (lB (nB 0) 14) (fB 15)))))) (.node (nB 255) (.node (nB 0) (.node (nB 0) (.node (nB 0) (.node (nB 0) (lB (nB 0) 14) (fB 15)) (.node (nB 0)
  (lB (nB 0) 14) (fB 15))) (.node (nB 0) (.node (nB 0) (lB (nB 0) 14) (fB 15)) (.node (nB 0) (lB (nB 0) 14) (fB 15)))) (.node (nB 0) (.node (nB 0) (fB 16) (.node (nB 0) (lB (nB 0)
  14) (fB 15))) (.node (nB 0) (.node (nB 0) (lB (nB 0) 14) (fB 15)) (.node (nB 0) (lB (nB 0) 14) (fB 15))))) (.node (nB 0) (.node (nB 0) (.node (nB 0) (fB 16) (.node (nB 0) (lB (nB
  0) 14) (fB 15))) (.node (nB 0) (.node (nB 0) (lB (nB 0) 14) (fB 15)) (.node (nB 0) (lB (nB 0) 14) (fB 15)))) (.node (nB 0) (.node (nB 0) (fB 16) (.node (nB 0) (lB (nB 0) 14) (fB
  15))) (.node (nB 0) (.node (nB 0) (lB (nB 0) 14) (fB 15)) (.node (nB 0) (lB (nB 0) 14) (fB 15))))))))) (.node (nB 83) (.node (nB 70) (.node (nB 0) (.node (nB 64) (.node (nB 0)
  (.node (nB 0) (.node (nB 0) (.node (nB 0) (.node (nB 0) (lB (nB 3) 13) (fB 14)) (fB 15)) (.node (nB 0) (lB (nB 0) 14) (fB 15))) (.node (nB 0) (.node (nB 0) (lB (nB 0) 14) (fB 15))
  (.node (nB 0) (lB (nB 0) 14) (fB 15)))) (.node (nB 0) (.node (nB 0) (fB 16) (.node (nB 0) (lB (nB 0) 14) (fB 15))) (.node (nB 0) (.node (nB 0) (.node (nB 0) (lB (nB 64) 13) (fB
  14)) (fB 15)) (.node (nB 0) (lB (nB 0) 14) (fB 15))))) (.node (nB 0) (.node (nB 0) (.node (nB 0) (fB 16) (.node (nB 0) (lB (nB 0) 14) (fB 15))) (.node (nB 0) (.node (nB 0) (lB (nB
  0) 14) (fB 15)) (.node (nB 0) (lB (nB 0) 14) (fB 15)))) (.node (nB 0) (.node (nB 0) (fB 16) (.node (nB 0) (lB (nB 0) 14) (fB 15))) (.node (nB 0) (.node (nB 0) (lB (nB 0) 14) (fB
  15)) (.node (nB 0) (lB (nB 0) 14) (fB 15)))))) (.node (nB 255) (.node (nB 0) (.node (nB 0) (.node (nB 0) (.node (nB 0) (.node (nB 0) (lB (nB 1) 13) (fB 14)) (fB 15)) (.node (nB 0)
  (lB (nB 0) 14) (fB 15))) (.node (nB 0) (.node (nB 0) (lB (nB 0) 14) (fB 15)) (.node (nB 0) (lB (nB 0) 14) (fB 15)))) (.node (nB 0) (.node (nB 0) (fB 16) (.node (nB 0) (lB (nB 0)
  14) (fB 15))) (.node (nB 0) (.node (nB 0) (lB (nB 0) 14) (fB 15)) (.node (nB 0) (lB (nB 0) 14) (fB 15))))) (.node (nB 0) (.node (nB 0) (.node (nB 0) (fB 16) (.node (nB 0) (lB (nB
  0) 14) (fB 15))) (.node (nB 0) (.node (nB 0) (lB (nB 0) 14) (fB 15)) (.node (nB 0) (lB (nB 0) 14) (fB 15)))) (.node (nB 0) (.node (nB 0) (fB 16) (.node (nB 0) (lB (nB 0) 14) (fB
  15))) (.node (nB 0) (.node (nB 0) (lB (nB 0) 14) (fB 15)) (.node (nB 0) (lB (nB 0) 14) (fB 15))))))) (.node (nB 0) (.node (nB 0) (.node (nB 0) (.node (nB 0) (.node (nB 0) (.node
  (nB 0) (lB (nB 0) 14) (fB 15)) (.node (nB 0) (lB (nB 0) 14) (fB 15))) (.node (nB 0) (.node (nB 0) (.node (nB 0) (lB (nB 69) 13) (fB 14)) (fB 15)) (.node (nB 0) (lB (nB 0) 14) (fB
  15)))) (.node (nB 0) (.node (nB 0) (fB 16) (.node (nB 0) (lB (nB 0) 14) (fB 15))) (.node (nB 0) (.node (nB 0) (lB (nB 0) 14) (fB 15)) (.node (nB 0) (lB (nB 0) 14) (fB 15)))))
  (.node (nB 0) (.node (nB 0) (.node (nB 0) (fB 16) (.node (nB 0) (lB (nB 0) 14) (fB 15))) (.node (nB 0) (.node (nB 0) (lB (nB 0) 14) (fB 15)) (.node (nB 0) (lB (nB 0) 14) (fB 15))))
  (.node (nB 0) (.node (nB 0) (fB 16) (.node (nB 0) (lB (nB 0) 14) (fB 15))) (.node (nB 0) (.node (nB 0) (lB (nB 0) 14) (fB 15)) (.node (nB 0) (lB (nB 0) 14) (fB 15)))))) (.node (nB
  255) (.node (nB 0) (.node (nB 0) (.node (nB 0) (.node (nB 0) (lB (nB 0) 14) (fB 15)) (.node (nB 0) (lB (nB 0) 14) (fB 15))) (.node (nB 0) (.node (nB 0) (lB (nB 0) 14) (fB 15))
  (.node (nB 0) (lB (nB 0) 14) (fB 15)))) (.node (nB 0) (.node (nB 0) (fB 16) (.node (nB 0) (lB (nB 0) 14) (fB 15))) (.node (nB 0) (.node (nB 0) (lB (nB 0) 14) (fB 15)) (.node (nB 0)
  (lB (nB 0) 14) (fB 15))))) (.node (nB 0) (.node (nB 0) (.node (nB 0) (fB 16) (.node (nB 0) (lB (nB 0) 14) (fB 15))) (.node (nB 0) (.node (nB 0) (lB (nB 0) 14) (fB 15)) (.node (nB
  0) (lB (nB 0) 14) (fB 15)))) (.node (nB 0) (.node (nB 0) (fB 16) (.node (nB 0) (lB (nB 0) 14) (fB 15))) (.node (nB 0) (.node (nB 0) (lB (nB 0) 14) (fB 15)) (.node (nB 0) (lB (nB 0)
  14) (fB 15)))))))) (.node (nB 73) (.node (nB 0) (.node (nB 0) (.node (nB 0) (.node (nB 0) (.node (nB 0) (.node (nB 0) (lB (nB 0) 14) (fB 15)) (.node (nB 0) (lB (nB 0) 14) (fB 15)))
  (.node (nB 0) (.node (nB 0) (lB (nB 0) 14) (fB 15)) (.node (nB 0) (lB (nB 0) 14) (fB 15)))) (.node (nB 0) (.node (nB 0) (fB 16) (.node (nB 0) (lB (nB 0) 14) (fB 15))) (.node (nB 0)
  (.node (nB 0) (lB (nB 0) 14) (fB 15)) (.node (nB 0) (lB (nB 0) 14) (fB 15))))) (.node (nB 0) (.node (nB 0) (.node (nB 0) (fB 16) (.node (nB 0) (lB (nB 0) 14) (fB 15))) (.node (nB
  0) (.node (nB 0) (lB (nB 0) 14) (fB 15)) (.node (nB 0) (lB (nB 0) 14) (fB 15)))) (.node (nB 0) (.node (nB 0) (fB 16) (.node (nB 0) (lB (nB 0) 14) (fB 15))) (.node (nB 0) (.node (nB
  0) (lB (nB 0) 14) (fB 15)) (.node (nB 0) (lB (nB 0) 14) (fB 15)))))) (.node (nB 255) (.node (nB 0) (.node (nB 0) (.node (nB 0) (.node (nB 0) (lB (nB 0) 14) (fB 15)) (.node (nB 0)
  (lB (nB 0) 14) (fB 15))) (.node (nB 0) (.node (nB 0) (lB (nB 0) 14) (fB 15)) (.node (nB 0) (lB (nB 0) 14) (fB 15)))) (.node (nB 0) (.node (nB 0) (fB 16) (.node (nB 0) (lB (nB 0)
  14) (fB 15))) (.node (nB 0) (.node (nB 0) (lB (nB 0) 14) (fB 15)) (.node (nB 0) (lB (nB 0) 14) (fB 15))))) (.node (nB 0) (.node (nB 0) (.node (nB 0) (fB 16) (.node (nB 0) (lB (nB
  0) 14) (fB 15))) (.node (nB 0) (.node (nB 0) (lB (nB 0) 14) (fB 15)) (.node (nB 0) (lB (nB 0) 14) (fB 15)))) (.node (nB 0) (.node (nB 0) (fB 16) (.node (nB 0) (lB (nB 0) 14) (fB
  15))) (.node (nB 0) (.node (nB 0) (lB (nB 0) 14) (fB 15)) (.node (nB 0) (lB (nB 0) 14) (fB 15))))))) (.node (nB 0) (.node (nB 0) (.node (nB 0) (.node (nB 0) (.node (nB 0) (.node
  (nB 0) (lB (nB 0) 14) (fB 15)) (.node (nB 0) (lB (nB 0) 14) (fB 15))) (.node (nB 0) (.node (nB 0) (.node (nB 0) (lB (nB 69) 13) (fB 14)) (fB 15)) (.node (nB 0) (lB (nB 0) 14) (fB
  15)))) (.node (nB 0) (.node (nB 0) (fB 16) (.node (nB 0) (lB (nB 0) 14) (fB 15))) (.node (nB 0) (.node (nB 0) (lB (nB 0) 14) (fB 15)) (.node (nB 0) (lB (nB 0) 14) (fB 15)))))
  (.node (nB 0) (.node (nB 0) (.node (nB 0) (fB 16) (.node (nB 0) (lB (nB 0) 14) (fB 15))) (.node (nB 0) (.node (nB 0) (lB (nB 0) 14) (fB 15)) (.node (nB 0) (lB (nB 0) 14) (fB 15))))
  (.node (nB 0) (.node (nB 0) (fB 16) (.node (nB 0) (lB (nB 0) 14) (fB 15))) (.node (nB 0) (.node (nB 0) (lB (nB 0) 14) (fB 15)) (.node (nB 0) (lB (nB 0) 14) (fB 15)))))) (.node (nB
  255) (.node (nB 0) (.node (nB 0) (.node (nB 0) (.node (nB 0) (lB (nB 0) 14) (fB 15)) (.node (nB 0) (lB (nB 0) 14) (fB 15))) (.node (nB 0) (.node (nB 0) (lB (nB 0) 14) (fB 15))
  (.node (nB 0) (lB (nB 0) 14) (fB 15)))) (.node (nB 0) (.node (nB 0) (fB 16) (.node (nB 0) (lB (nB 0) 14) (fB 15))) (.node (nB 0) (.node (nB 0) (lB (nB 0) 14) (fB 15)) (.node (nB 0)
  (lB (nB 0) 14) (fB 15))))) (.node (nB 0) (.node (nB 0) (.node (nB 0) (fB 16) (.node (nB 0) (lB (nB 0) 14) (fB 15))) (.node (nB 0) (.node (nB 0) (lB (nB 0) 14) (fB 15)) (.node (nB
  0) (lB (nB 0) 14) (fB 15)))) (.node (nB 0) (.node (nB 0) (fB 16) (.node (nB 0) (lB (nB 0) 14) (fB 15))) (.node (nB 0) (.node (nB 0) (lB (nB 0) 14) (fB 15)) (.node (nB 0) (lB (nB 0)
  14) (fB 15)))))))))) true false) (.node (.cells 176 22 22 (.node (nU 1088) (.node (nI 0) (.node (nU 0) (.node (nU 0) (lA (nU 0) 19) (fA 20)) (.node (nU 0) (lA (nU 0) 19) (fA 20)))
  (.node (nU 1088) (.node (nU 0) (lA (nU 0) 19) (fA 20)) (.node (nU 0) (lA (nU 0) 19) (fA 20)))) (.node (nU 0) (.node (nU 0) (.node (nU 0) (lA (nU 0) 19) (fA 20)) (.node (nU 0) (lA
  (nU 0) 19) (fA 20))) (.node (nU 0) (.node (nU 0) (lA (nU 0) 19) (fA 20)) (lA (nU 0) 20)))) false false) (lD (.map [] 0) 19) (fD 20)) (.node .dead (lD (.cells 3 1 1 (lA (nI 8) 23)
  true false) 19) (fD 20))) (.node .dead (.node .dead (lD (.cells 53 1 1 (lA (.ptr 17 0) 23) true false) 19) (.node .dead (fD 19) (.node .dead (fD 18) (.node .dead (fD 17) (.node
  .dead (fD 16) (lD (.cells 25 1 242 (.node (nU 5929342154728227142) (.node (nU 3072) (.node (nU 18446744073709548543) (.node (nU 0) (.node (nU 0) (.node (nU 0) (.node (nU 0) (lA (nU
  0) 16) (lA (nU 0) 16)) (.node (nU 0) (lA (nU 0) 16) (lA (nU 0) 16))) (.node (nU 0) (.node (nU 0) (lA (nU 0) 16) (lA (nU 0) 16)) (.node (nU 0) (lA (nU 0) 16) (lA (nU 0) 16))))
  (.node (nU 0) (.node (nU 0) (.node (nU 0) (lA (nU 0) 16) (lA (nU 0) 16)) (.node (nU 0) (lA (nU 0) 16) (lA (nU 0) 16))) (.node (nU 0) (.node (nU 0) (lA (nU 0) 16) (lA (nU 0) 16))
  (.node (nU 0) (lA (nU 0) 16) (fA 17))))) (.node (nU 0) (.node (nU 0) (.node (nU 0) (.node (nU 0) (lA (nU 0) 16) (lA (nU 0) 16)) (.node (nU 0) (lA (nU 0) 16) (lA (nU 0) 16))) (.node
  (nU 0) (.node (nU 0) (lA (nU 0) 16) (lA (nU 0) 16)) (.node (nU 0) (lA (nU 0) 16) (fA 17)))) (.node (nU 0) (.node (nU 0) (.node (nU 0) (lA (nU 0) 16) (lA (nU 0) 16)) (.node (nU 0)
  (lA (nU 0) 16) (lA (nU 0) 16))) (.node (nU 0) (.node (nU 0) (lA (nU 0) 16) (lA (nU 0) 16)) (.node (nU 0) (lA (nU 0) 16) (fA 17)))))) (.node (nU 0) (.node (nU 0) (.node (nU 0)
  (.node (nU 0) (.node (nU 0) (lA (nU 1) 16) (lA (nU 0) 16)) (.node (nU 0) (lA (nU 0) 16) (lA (nU 0) 16))) (.node (nU 0) (.node (nU 0) (lA (nU 0) 16) (lA (nU 0) 16)) (.node (nU 0)
  (lA (nU 0) 16) (lA (nU 0) 16)))) (.node (nU 0) (.node (nU 0) (.node (nU 0) (lA (nU 0) 16) (lA (nU 0) 16)) (.node (nU 0) (lA (nU 0) 16) (lA (nU 0) 16))) (.node (nU 0) (.node (nU 0)
  (lA (nU 0) 16) (lA (nU 0) 16)) (.node (nU 0) (lA (nU 0) 16) (fA 17))))) (.node (nU 0) (.node (nU 0) (.node (nU 0) (.node (nU 0) (lA (nU 0) 16) (lA (nU 0) 16)) (.node (nU 0) (lA (nU
  0) 16) (lA (nU 0) 16))) (.node (nU 0) (.node (nU 0) (lA (nU 0) 16) (lA (nU 0) 16)) (.node (nU 0) (lA (nU 0) 16) (fA 17)))) (.node (nU 0) (.node (nU 0) (.node (nU 0) (lA (nU 0) 16)
  (lA (nU 0) 16)) (.node (nU 0) (lA (nU 0) 16) (lA (nU 0) 16))) (.node (nU 0) (.node (nU 0) (lA (nU 0) 16) (lA (nU 0) 16)) (.node (nU 0) (lA (nU 0) 16) (fA 17))))))) (.node (nU 1088)
  (.node (nU 0) (.node (nU 0) (.node (nU 0) (.node (nU 0) (.node (nU 0) (lA (nU 3) 16) (lA (nU 0) 16)) (.node (nU 0) (lA (nU 0) 16) (lA (nU 0) 16))) (.node (nU 0) (.node (nU 0) (lA
  (nU 0) 16) (lA (nU 0) 16)) (.node (nU 0) (lA (nU 0) 16) (lA (nU 0) 16)))) (.node (nU 0) (.node (nU 0) (.node (nU 0) (lA (nU 5495893775785918464) 16) (lA (nU 0) 16)) (.node (nU 0)
  (lA (nU 0) 16) (lA (nU 0) 16))) (.node (nU 0) (.node (nU 0) (lA (nU 0) 16) (lA (nU 0) 16)) (.node (nU 0) (lA (nU 0) 16) (fA 17))))) (.node (nU 0) (.node (nU 0) (.node (nU 0) (.node
  (nU 0) (lA (nU 0) 16) (lA (nU 0) 16)) (.node (nU 0) (lA (nU 0) 16) (lA (nU 0) 16))) (.node (nU 0) (.node (nU 0) (lA (nU 0) 16) (lA (nU 0) 16)) (.node (nU 0) (lA (nU 0) 16) (fA
  17)))) (.node (nU 0) (.node (nU 0) (.node (nU 0) (lA (nU 1088) 16) (lA (nU 0) 16)) (.node (nU 0) (lA (nU 0) 16) (lA (nU 0) 16))) (.node (nU 0) (.node (nU 0) (lA (nU 0) 16) (lA (nU
  0) 16)) (.node (nU 0) (lA (nU 0) 16) (fA 17)))))) (.node (nU 0) (.node (nU 0) (.node (nU 0) (.node (nU 0) (.node (nU 0) (lA (nU 0) 16) (lA (nU 0) 16)) (.node (nU 0) (lA (nU 0) 16)
  (lA (nU 0) 16))) (.node (nU 0) (.node (nU 0) (lA (nU 0) 16) (lA (nU 0) 16)) (.node (nU 0) (lA (nU 0) 16) (fA 17)))) (.node (nU 0) (.node (nU 0) (.node (nU 0) (lA (nU 0) 16) (lA (nU
  0) 16)) (.node (nU 0) (lA (nU 0) 16) (lA (nU 0) 16))) (.node (nU 0) (.node (nU 0) (lA (nU 0) 16) (lA (nU 0) 16)) (.node (nU 0) (lA (nU 0) 16) (fA 17))))) (.node (nU 0) (.node (nU
  0) (.node (nU 0) (.node (nU 0) (lA (nU 0) 16) (lA (nU 0) 16)) (.node (nU 0) (lA (nU 0) 16) (lA (nU 0) 16))) (.node (nU 0) (.node (nU 0) (lA (nU 0) 16) (lA (nU 0) 16)) (.node (nU 0)
  (lA (nU 0) 16) (fA 17)))) (.node (nU 0) (.node (nU 0) (.node (nU 0) (lA (nU 0) 16) (lA (nU 0) 16)) (.node (nU 0) (lA (nU 0) 16) (lA (nU 0) 16))) (.node (nU 0) (.node (nU 0) (lA (nU
  0) 16) (lA (nU 0) 16)) (.node (nU 0) (lA (nU 0) 16) (fA 17)))))))) false false) 15)))))) (.node .dead (lD (.loop .ready none 44 (.node (.sl 4 0 0 3072 (.k 3072)) (.node undefV
  (.node (nI 0) (.node undefV (lU (.sl 4 0 0 3072 (.k 3072)) 19) (fU 20)) (lU (.bool false) 20)) (.node undefV (lU (nI 3072) 20) (lU (.agg [.nilsl, .nilsl, (.map 16), (nU 0), (nU 0),
  (nU 0), (nU 0)]) 20))) (.node .nil (.node (.ptr 18 0) (.node (.sl 4 0 0 3072 (.k 3072)) (lU (.fn (.func 147) [] [(.ptr 19 0), (.ptr 20 0)]) 19) (fU 20)) (lU (.map 16) 20)) (.node
  undefV (lU (.bool true) 20) (lU (.ptr 17 0) 20)))) 53 #[17] (codeAt Tryz.f44 [1, 1, 1, 0, 1, 0, 0]) (codeAt Tryz.f44 [1, 1, 1, 0, 1, 0, 1]) 21) 19) (fD 20))))), 507⟩,
  [.dr
  ⟨(opsAt Tryz.f147 [1, 0, 0, 1, 0, 0, 0]), [0, 0, 0, 6, 14, 31, 63], [], 64, 63, 63⟩, .code (codeAt Tryz.f147 [1, 0, 0, 1, 0, 0, 1]), .blk 1, .code (codeAt Tryz.f147 [1, 0, 0, 1,
  1]), .lp (codeAt Tryz.f147 [1, 0, 0]), .blk 0]⟩
set_option maxRecDepth 1000000 in
theorem starts : okF ctx 6 = true := by kernel_rfl
set_option maxRecDepth 1000000 in
theorem part1 : cutR [0, 1, 2, 4, 5, 8, 15, 16, 17, 18, 19, 20, 21, 22, 506] (fromStart ctx 6 19000) = .inl s1 := by kernel_rfl
end Go.Proofs.YtelipbpnplcofaaGreat.putNil
