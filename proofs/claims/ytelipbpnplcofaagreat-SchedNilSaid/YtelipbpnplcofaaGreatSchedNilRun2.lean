/-
  PROVED HERE: parts of the run of the evaluator from the call of SchedNil, by the kernel.
  Conditions: none.
-/
import Derived.KernelRfl
import Derived.Test.YtelipbpnplcofaaGreatSchedNilRun1
namespace Go.Proofs.YtelipbpnplcofaaGreat.schedNil
open Go.Lev
/-- where the run stands at the end of part 2 -/
noncomputable def s2 : St :=
  ⟨⟨147, 31, [], .normal, none,
  [⟨44, 53, [⟨(.coll 27), []⟩], .normal, none, .run, (.node (.sl 10 0 0 3072 (.k 3072)) (.node undefV (.node (nI 0) (.node undefV (lU (.sl 10 0 0 3072
  (.k 3072)) 19) (fU 20)) (lU (.bool false) 20)) (.node undefV (lU (nI 3072) 20) (lU (.agg [.nilsl, .nilsl, (.map 22), (nU 0), (nU 0), (nU 0), (nU 0)]) 20))) (.node .nil (.node (.ptr
  24 0) (.node (.sl 10 0 0 3072 (.k 3072)) (lU (.fn (.func 147) [] [(.ptr 25 0), (.ptr 26 0)]) 19) (fU 20)) (lU (.map 22) 20)) (.node undefV (lU (.bool true) 20) (lU (.ptr 23 0)
  20)))), [.rf 28, .blk 0, .code (codeAt Tryz.f44 [1, 1, 1, 1])]⟩,
    ⟨66, 132, [], .normal, none, .run, (.node (.agg [(nI 2), .nilsl, (nI 4), (nI 0)]) (.node (nI 1) (.node undefV
  (.node undefV (.node (nI 2) (.node (.bool false) (lU (.ptr 9 3) 17) (fU 18)) (lU (.bool false) 18)) (.node (.ptr 9 1) (.node (.ptr 9 3) (lU (.ptr 11 0) 17) (fU 18)) (lU (.bool
  false) 18))) (.node undefV (.node (nI 2) (.node (nI 4) (lU (.bool false) 17) (fU 18)) (lU (.bool false) 18)) (.node (.bool false) (lU (.bool false) 18) (lU .nilsl 18)))) (.node
  (.ptr 11 0) (.node undefV (.node (.bool false) (.node (.bool false) (lU (.ptr 11 0) 17) (fU 18)) (lU (nI 1) 18)) (.node (nI 0) (lU (.bool false) 18) (lU (nI 2) 18))) (.node undefV
  (.node (.bool false) (.node (.bool false) (lU (.ptr 11 0) 17) (fU 18)) (lU (nI 1) 18)) (.node (.ptr 9 2) (lU (nI 0) 18) (lU (.ptr 9 2) 18))))) (.node (.ptr 9 0) (.node .nil (.node
  undefV (.node (.bool false) (.node (.bool false) (lU (nI 0) 17) (fU 18)) (lU (.bool false) 18)) (.node .nilsl (.node (nI 0) (lU (.sl 10 0 0 3072 (.k 3072)) 17) (fU 18)) (lU (.ptr 9
  0) 18))) (.node undefV (.node (.bool false) (lU (.bool false) 18) (lU (.bool false) 18)) (.node (.bool false) (lU (.ptr 9 3) 18) (lU .nilsl 18)))) (.node undefV (.node undefV
  (.node (.ptr 9 0) (.node (.ptr 9 2) (lU (.ptr 11 0) 17) (fU 18)) (lU (.bool false) 18)) (.node (.bool false) (lU (.bool false) 18) (lU (.ptr 9 1) 18))) (.node (.ptr 9 0) (.node
  (.bool false) (.node (.bool false) (lU (.ptr 11 0) 17) (fU 18)) (lU (.bool false) 18)) (.node (nI 4) (lU (.bool false) 18) (lU (nI 4) 18)))))), [.reg (opsAt Tryz.f66 [1, 1, 1, 1,
  0]) ((opsAt Tryz.f66 [1, 1, 1, 1, 0]).toList.drop 4), .code (codeAt Tryz.f66 [1, 1, 1, 1, 1])]⟩,
    ⟨34, 72, [], .normal, none, .run, (.node (.bool false) (.node undefV (lU (.agg
  [(nI 2), .nilsl, (nI 4), (nI 0)]) 21) (fU 22)) (fU 23)), [.reg (opsAt Tryz.f34 [1, 0]) ((opsAt Tryz.f34 [1, 0]).toList.drop 1), .code (codeAt Tryz.f34 [1, 1])]⟩,
    ⟨7, 84, [],
  .normal, none, .run, (.node (.bool false) (.node .nil (.node .nil (.node (.ptr 4 0) (.node (.tup [(.agg [(nI 0), (nI 0), (nI 0), (.bool false), (nI 0), (.str (bs [])), .nilsl]),
  (nI 1)]) (.node (.bool true) (lU .nilsl 17) (fU 18)) (.node (.bool true) (lU (.bool true) 17) (fU 18))) (.node (nI 1) (.node (.bool true) (lU (nI 0) 17) (fU 18)) (lU (.bool false)
  18))) (.node (.tup [.nil, (nI 1)]) (.node (nI 1) (.node (.bool true) (lU (nI 0) 17) (fU 18)) (lU (nI 1) 18)) (.node (.agg [(nI 0), (nU 0), (nU 0), (nI 0), (.str (bs []))]) (.node
  (.bool true) (lU (.bool true) 17) (fU 18)) (lU .nil 18)))) (.node (.ptr 2 0) (.node (.ptr 6 0) (.node (.tup [(.agg [(nI 0), (nI 0), (nI 0), (.bool false), (nI 0), (.str (bs [])),
  .nilsl]), (nI 1)]) (.node (.bool true) (lU (nI 0) 17) (fU 18)) (.node (.bool true) (lU (.bool true) 17) (fU 18))) (.node .nil (.node (.bool true) (lU (nI 0) 17) (fU 18)) (lU (.bool
  true) 18))) (.node .nil (.node (.tup [(.agg [(nI 0), (nI 0), (nI 0), (.bool false), (nI 0), (.str (bs [])), .nilsl]), (nI 1)]) (.node (.bool true) (lU .nilsl 17) (fU 18)) (lU
  (.bool true) 18)) (.node .nil (.node (.agg [(nI 0), (nU 0), (nU 0), (nI 0), (.str (bs []))]) (lU .nil 17) (fU 18)) (lU (nI 0) 18))))) (.node (.ptr 0 0) (.node (nI 1) (.node (nI 1)
  (.node .nil (.node (nI 1) (lU (nI 0) 17) (fU 18)) (.node (.bool true) (lU (.bool true) 17) (fU 18))) (.node (.tup [(.agg [(nI 0), (nU 0), (nU 0), (nI 0), (.str (bs []))]), (.bool
  false)]) (.node (nI 1) (lU (nI 0) 17) (fU 18)) (lU (.bool true) 18))) (.node (.tup [.nil, (nI 1)]) (.node (.tup [(.agg [(nI 0), (nI 0), (nI 0), (.bool false), (nI 0), (.str (bs
  [])), .nilsl]), (nI 1)]) (.node (nI 1) (lU (nI 0) 17) (fU 18)) (lU (.bool true) 18)) (.node (.bool false) (.node .nil (lU (.bool true) 17) (fU 18)) (lU .nilsl 18)))) (.node (nI 1)
  (.node (.bool false) (.node (.agg [(nI 0), (nI 0), (nI 0), (.bool false), (nI 0), (.str (bs [])), .nilsl]) (.node (.bool true) (lU .nil 17) (fU 18)) (lU (.agg [(nI 0), (nU 0), (nU
  0), (nI 0), (.str (bs []))]) 18)) (.node (.tup [(.agg [(nI 0), (nU 0), (nU 0), (nI 0), (.str (bs []))]), (.bool false)]) (.node (.bool true) (lU (.bool true) 17) (fU 18)) (lU
  (.bool true) 18))) (.node (nI 1) (.node (.agg [(nI 0), (nI 0), (nI 0), (.bool false), (nI 0), (.str (bs [])), .nilsl]) (.node (.bool true) (lU (nI 0) 17) (fU 18)) (lU (.bool true)
  18)) (.node (.bool true) (.node (nI 1) (lU .nil 17) (fU 18)) (lU .nil 18)))))), [.reg (opsAt Tryz.f7 [1, 1, 1, 1, 1, 1, 1, 0]) ((opsAt Tryz.f7 [1, 1, 1, 1, 1, 1, 1, 0]).toList.drop
  53), .code (codeAt Tryz.f7 [1, 1, 1, 1, 1, 1, 1, 1])]⟩]⟩,
  .run,
  (.node (.yld 28) (.node (.ptr 25 0) (.node undefV (.node (.sl 10 0 0 3072 (.k 3072)) (lU (nI 2944) 19) (lU (nI
  8) 19)) (.node (nI 8) (lU (.yld 28) 19) (lU (nI 2952) 19))) (.node (nI 8) (.node (.bool true) (lU (nI 128) 19) (lU (nI 2944) 19)) (.node (nI 8) (lU (nI 2944) 19) (lU (.bool true)
  19)))) (.node (.ptr 26 0) (.node (nI 2944) (.node (nI 3072) (lU (.sl 10 2944 0 128 (.k 128)) 19) (lU (nI 2952) 19)) (.node (nI 2944) (lU (.sl 10 0 0 3072 (.k 3072)) 19) (lU (.sl 10
  2944 0 8 (.k 8)) 19))) (.node (nI 2944) (.node (nI 2936) (lU (nI 8) 19) (lU (nI 8) 19)) (.node (.sl 10 0 0 3072 (.k 3072)) (lU (nI 2944) 19) (lU (.bool false) 19))))),
  ⟨(.node
  (.cells 80 4 4 (.node .nil (.node .nilsl (lA (nI 0) 21) (fA 22)) (lA .nilsl 22)) true false) (.node .dead (.node .dead (.node .dead (fD 20) (lD (.cells 128 7 7 (.node .nilsl (.node
  (.sl 766 0 0 369 (.u 766 0)) (lA (nU 0) 21) (lA (nU 0) 21)) (.node (.map 22) (lA (nU 0) 21) (lA (nU 0) 21))) true false) 19)) (.node (.cells 50 8 8 (.node (.sl 10 0 0 3072 (.k
  3072)) (.node (nI 2) (.node (nI 0) (lA (.sl 21 0 0 1 (.u 21 0)) 20) (fA 21)) (lA (nI 1) 21)) (.node (nI 1) (lA (nI 0) 21) (lA (nI 1) 21))) true false) (fD 20) (lD (.defd (some []))
  19))) (.node .dead (.node (.cells 158 4 4 (.node (nI 2) (.node .nilsl (lA (nI 0) 21) (fA 22)) (lA (nI 4) 22)) true false) (fD 20) (lD (.cells 47 1 1 (lA (.sl 10 0 0 3072 (.k 3072))
  23) true false) 19)) (.node .dead (lD (.cells 170 1 1 (lA (.sl 14 0 0 1 (.u 14 0)) 23) false false) 19) (fD 20)))) (.node (.cells 84 7 7 (.node (nI 0) (.node (nI 0) (lA (.bool
  false) 21) (lA (.str (bs [])) 21)) (.node (nI 0) (lA (nI 0) 21) (lA .nilsl 21))) true false) (.node (.cells 84 7 7 (.node (nI 0) (.node (nI 0) (lA (.bool false) 21) (lA (.str (bs
  [])) 21)) (.node (nI 0) (lA (nI 0) 21) (lA .nilsl 21))) true false) (.node .dead (fD 20) (lD (.cells 53 1 1 (lA (.ptr 23 0) 23) true false) 19)) (.node .dead (fD 20) (lD (.loop
  .ready none 44 (.node (.sl 10 0 0 3072 (.k 3072)) (.node undefV (.node (nI 0) (.node undefV (lU (.sl 10 0 0 3072 (.k 3072)) 19) (fU 20)) (lU (.bool false) 20)) (.node undefV (lU
  (nI 3072) 20) (lU (.agg [.nilsl, .nilsl, (.map 22), (nU 0), (nU 0), (nU 0), (nU 0)]) 20))) (.node .nil (.node (.ptr 24 0) (.node (.sl 10 0 0 3072 (.k 3072)) (lU (.fn (.func 147) []
  [(.ptr 25 0), (.ptr 26 0)]) 19) (fU 20)) (lU (.map 22) 20)) (.node undefV (lU (.bool true) 20) (lU (.ptr 23 0) 20)))) 53 #[17] (codeAt Tryz.f44 [1, 1, 1, 0, 1, 0, 0]) (codeAt
  Tryz.f44 [1, 1, 1, 0, 1, 0, 1]) 27) 19))) (.node (.cells 89 5 5 (.node (nI 0) (.node (nU 0) (lA (nI 0) 21) (fA 22)) (.node (nU 0) (lA (.str (bs [])) 21) (fA 22))) true false)
  (.node (.cells 5 1 3072 (.node (nB 70) (.node (nB 65) (.node (nB 84) (.node (nB 82) (.node (nB 0) (.node (nB 255) (.node (nB 0) (.node (nB 0) (.node (nB 0) (fB 15) (lB (nB 0) 14))
  (.node (nB 0) (lB (nB 0) 14) (fB 15))) (.node (nB 0) (fB 16) (.node (nB 0) (lB (nB 0) 14) (fB 15)))) (.node (nB 0) (.node (nB 0) (fB 16) (.node (nB 0) (lB (nB 0) 14) (fB 15)))
  (.node (nB 0) (.node (nB 0) (lB (nB 0) 14) (fB 15)) (.node (nB 0) (lB (nB 0) 14) (fB 15))))) (.node (nB 0) (.node (nB 0) (.node (nB 0) (.node (nB 0) (lB (nB 0) 14) (fB 15)) (.node
  (nB 0) (lB (nB 0) 14) (fB 15))) (.node (nB 0) (.node (nB 0) (lB (nB 0) 14) (fB 15)) (.node (nB 0) (lB (nB 0) 14) (fB 15)))) (.node (nB 0) (.node (nB 0) (fB 16) (.node (nB 0) (lB
  (nB 0) 14) (fB 15))) (.node (nB 0) (.node (nB 0) (lB (nB 0) 14) (fB 15)) (.node (nB 0) (lB (nB 0) 14) (fB 15)))))) (.node (nB 0) (.node (nB 0) (.node (nB 0) (.node (nB 0) (.node
  (nB 0) (lB (nB 0) 14) (fB 15)) (.node (nB 0) (lB (nB 0) 14) (fB 15))) (.node (nB 0) (.node (nB 0) (.node (nB 0) (lB (nB 76) 13) (fB 14)) (fB 15)) (.node (nB 0) (lB (nB 0) 14) (fB
  15)))) (.node (nB 0) (.node (nB 0) (fB 16) (.node (nB 0) (lB (nB 0) 14) (fB 15))) (.node (nB 0) (.node (nB 0) (lB (nB 0) 14) (fB 15)) (.node (nB 0) (lB (nB 0) 14) (fB 15)))))
  (.node (nB 0) (.node (nB 0) (.node (nB 0) (fB 16) (.node (nB 0) (lB (nB 0) 14) (fB 15))) (.node (nB 0) (.node (nB 0) (lB (nB 0) 14) (fB 15)) (.node (nB 0) (lB (nB 0) 14) (fB 15))))
  (.node (nB 0) (.node (nB 0) (fB 16) (.node (nB 0) (lB (nB 0) 14) (fB 15))) (.node (nB 0) (.node (nB 0) (lB (nB 0) 14) (fB 15)) (.node (nB 0) (lB (nB 0) 14) (fB 15))))))) (.node (nB
  0) (.node (nB 0) (.node (nB 0) (.node (nB 0) (.node (nB 0) (.node (nB 0) (lB (nB 0) 14) (fB 15)) (.node (nB 0) (lB (nB 0) 14) (fB 15))) (.node (nB 0) (.node (nB 0) (.node (nB 0)
  (lB (nB 69) 13) (fB 14)) (fB 15)) (.node (nB 0) (lB (nB 0) 14) (fB 15)))) (.node (nB 0) (.node (nB 0) (fB 16) (.node (nB 0) (lB (nB 0) 14) (fB 15))) (.node (nB 0) (.node (nB 0) (lB
  (nB 0) 14) (fB 15)) (.node (nB 0) (lB (nB 0) 14) (fB 15))))) (.node (nB 0) (.node (nB 0) (.node (nB 0) (fB 16) (.node (nB 0) (lB (nB 0) 14) (fB 15))) (.node (nB 0) (.node (nB 0)
  (lB (nB 0) 14) (fB 15)) (.node (nB 0) (lB (nB 0) 14) (fB 15)))) (.node (nB 0) (.node (nB 0) (fB 16) (.node (nB 0) (lB (nB 0) 14) (fB 15))) (.node (nB 0) (.node (nB 0) (lB (nB 0)
  14) (fB 15)) (.node (nB 0) (lB (nB 0) 14) (fB 15)))))) (.node (nB 255) (.node (nB 0) (.node (nB 0) (.node (nB 0) (.node (nB 0) (lB (nB 0) 14) (fB 15)) (.node (nB 0) (lB (nB 0) 14)
  (fB 15))) (.node (nB 0) (.node (nB 0) (lB (nB 0) 14) (fB 15)) (.node (nB 0) (lB (nB 0) 14) (fB 15)))) (.node (nB 0) (.node (nB 0) (fB 16) (.node (nB 0) (lB (nB 0) 14) (fB 15)))
  (.node (nB 0) (.node (nB 0) (lB (nB 0) 14) (fB 15)) (.node (nB 0) (lB (nB 0) 14) (fB 15))))) (.node (nB 0) (.node (nB 0) (.node (nB 0) (fB 16) (.node (nB 0) (lB (nB 0) 14) (fB
  15))) (.node (nB 0) (.node (nB 0) (lB (nB 0) 14) (fB 15)) (.node (nB 0) (lB (nB 0) 14) (fB 15)))) (.node (nB 0) (.node (nB 0) (fB 16) (.node (nB 0) (lB (nB 0) 14) (fB 15))) (.node
  (nB 0) (.node (nB 0) (lB (nB 0) 14) (fB 15)) (.node (nB 0) (lB (nB 0) 14) (fB 15)))))))) (.node (nB 65) (.node (nB 12) (.node (nB 4) (.node (nB 0) (.node (nB 0) (.node (nB 0)
  (.node (nB 0) (lB (nB 0) 14) (fB 15)) (.node (nB 0) (lB (nB 0) 14) (fB 15))) (.node (nB 0) (.node (nB 0) (lB (nB 0) 14) (fB 15)) (.node (nB 0) (lB (nB 0) 14) (fB 15)))) (.node (nB
  0) (.node (nB 0) (fB 16) (.node (nB 0) (lB (nB 0) 14) (fB 15))) (.node (nB 0) (.node (nB 0) (.node (nB 0) (lB (nB 4) 13) (fB 14)) (fB 15)) (.node (nB 0) (lB (nB 0) 14) (fB 15)))))
  (.node (nB 0) (.node (nB 0) (.node (nB 0) (fB 16) (.node (nB 0) (lB (nB 0) 14) (fB 15))) (.node (nB 0) (.node (nB 0) (lB (nB 0) 14) (fB 15)) (.node (nB 0) (lB (nB 0) 14) (fB 15))))
  (.node (nB 0) (.node (nB 0) (fB 16) (.node (nB 0) (lB (nB 0) 14) (fB 15))) (.node (nB 0) (.node (nB 0) (lB (nB 0) 14) (fB 15)) (.node (nB 0) (lB (nB 0) 14) (fB 15)))))) (.node (nB
  243) (.node (nB 0) (.node (nB 0) (.node (nB 0) (.node (nB 0) (lB (nB 0) 14) (fB 15)) (.node (nB 0) (lB (nB 0) 14) (fB 15))) (.node (nB 0) (.node (nB 0) (lB (nB 0) 14) (fB 15))
  (.node (nB 0) (lB (nB 0) 14) (fB 15)))) (.node (nB 0) (.node (nB 0) (fB 16) (.node (nB 0) (lB (nB 0) 14) (fB 15))) (.node (nB 0) (.node (nB 0) (lB (nB 0) 14) (fB 15)) (.node (nB 0)
  (lB (nB 0) 14) (fB 15))))) (.node (nB 0) (.node (nB 0) (.node (nB 0) (fB 16) (.node (nB 0) (lB (nB 0) 14) (fB 15))) (.node (nB 0) (.node (nB 0) (lB (nB 0) 14) (fB 15)) (.node (nB
  0) (lB (nB 0) 14) (fB 15)))) (.node (nB 0) (.node (nB 0) (fB 16) (.node (nB 0) (lB (nB 0) 14) (fB 15))) (.node (nB 0) (.node (nB 0) (lB (nB 0) 14) (fB 15)) (.node (nB 0) (lB (nB 0)
  14) (fB 15))))))) (.node (nB 0) (.node (nB 0) (.node (nB 0) (.node (nB 0) (.node (nB 0) (.node (nB 0) (lB (nB 0) 14) (fB 15)) (.node (nB 0) (lB (nB 0) 14) (fB 15))) (.node (nB 0)
  (.node (nB 0) (.node (nB 0) (lB (nB 86) 13) (fB 14)) (fB 15)) (.node (nB 0) (lB (nB 0) 14) (fB 15)))) (.node (nB 0) (.node (nB 0) (fB 16) (.node (nB 0) (lB (nB 0) 14) (fB 15)))
  (.node (nB 0) (.node (nB 0) (lB (nB 0) 14) (fB 15)) (.node (nB 0) (lB (nB 0) 14) (fB 15))))) (.node (nB 0) (.node (nB 0) (.node (nB 0) (fB 16) (.node (nB 0) (lB (nB 0) 14) (fB
  15))) (.node (nB 0) (.node (nB 0) (lB (nB 0) 14) (fB 15)) (.node (nB 0) (lB (nB 0) 14) (fB 15)))) (.node (nB 0) (.node (nB 0) (fB 16) (.node (nB 0) (lB (nB 0) 14) (fB 15))) (.node
  (nB 0) (.node (nB 0) (lB (nB 0) 14) (fB 15)) (.node (nB 0) (lB (nB 0) 14) (fB 15)))))) (.node (nB 255) (.node (nB 0) (.node (nB 0) (.node (nB 0) (.node (nB 0) (lB (nB 0) 14) (fB
  15)) (.node (nB 0) (lB (nB 0) 14) (fB 15))) (.node (nB 0) (.node (nB 0) (lB (nB 0) 14) (fB 15)) (.node (nB 0) (lB (nB 0) 14) (fB 15)))) (.node (nB 0) (.node (nB 0) (fB 16) (.node
  (nB 0) (lB (nB 0) 14) (fB 15))) (.node (nB 0) (.node (nB 0) (lB (nB 0) 14) (fB 15)) (.node (nB 0) (lB (nB 0) 14) (fB 15))))) (.node (nB 0) (.node (nB 0) (.node (nB 0) (fB 16)
  (.node (nB 0) (lB (nB 0) 14) (fB 15))) (.node (nB 0) (.node (nB 0) (lB (nB 0) 14) (fB 15)) (.node (nB 0) (lB (nB 0) 14) (fB 15)))) (.node (nB 0) (.node (nB 0) (fB 16) (.node (nB 0)
  (lB (nB 0) 14) (fB 15))) (.node (nB 0) (.node (nB 0) (lB (nB 0) 14) (fB 15)) (.node (nB 0) (lB (nB 0) 14) (fB 15))))))))) (.node (nB 83) (.node (nB 70) (.node (nB 0) (.node (nB 64)
  (.node (nB 0) (.node (nB 0) (.node (nB 0) (.node (nB 0) (.node (nB 0) (lB (nB 3) 13) (fB 14)) (fB 15)) (.node (nB 0) (lB (nB 0) 14) (fB 15))) (.node (nB 0) (.node (nB 0) (lB (nB 0)
  14) (fB 15)) (.node (nB 0) (lB (nB 0) 14) (fB 15)))) (.node (nB 0) (.node (nB 0) (fB 16) (.node (nB 0) (lB (nB 0) 14) (fB 15))) (.node (nB 0) (.node (nB 0) (.node (nB 0) (lB (nB
  64) 13) (fB 14)) (fB 15)) (.node (nB 0) (lB (nB 0) 14) (fB 15))))) (.node (nB 0) (.node (nB 0) (.node (nB 0) (fB 16) (.node (nB 0) (lB (nB 0) 14) (fB 15))) (.node (nB 0) (.node (nB
  0) (lB (nB 0) 14) (fB 15)) (.node (nB 0) (lB (nB 0) 14) (fB 15)))) (.node (nB 0) (.node (nB 0) (fB 16) (.node (nB 0) (lB (nB 0) 14) (fB 15))) (.node (nB 0) (.node (nB 0) (lB (nB 0)
  14) (fB 15)) (.node (nB 0) (lB (nB 0) 14) (fB 15)))))) (.node (nB 255) (.node (nB 0) (.node (nB 0) (.node (nB 0) (.node (nB 0) (.node (nB 0) (lB (nB 1) 13) (fB 14)) (fB 15)) (.node
  (nB 0) (lB (nB 0) 14) (fB 15))) (.node (nB 0) (.node (nB 0) (lB (nB 0) 14) (fB 15)) (.node (nB 0) (lB (nB 0) 14) (fB 15)))) (.node (nB 0) (.node (nB 0) (fB 16) (.node (nB 0) (lB
  (nB 0) 14) (fB 15))) (.node (nB 0) (.node (nB 0) (lB (nB 0) 14) (fB 15)) (.node (nB 0) (lB (nB 0) 14) (fB 15))))) (.node (nB 0) (.node (nB 0) (.node (nB 0) (fB 16) (.node (nB 0)
  (lB (nB 0) 14) (fB 15))) (.node (nB 0) (.node (nB 0) (lB (nB 0) 14) (fB 15)) (.node (nB 0) (lB (nB 0) 14) (fB 15)))) (.node (nB 0) (.node (nB 0) (fB 16) (.node (nB 0) (lB (nB 0)
  14) (fB 15))) (.node (nB 0) (.node (nB 0) (lB (nB 0) 14) (fB 15)) (.node (nB 0) (lB (nB 0) 14) (fB 15))))))) (.node (nB 0) (.node (nB 0) (.node (nB 0) (.node (nB 0) (.node (nB 0)
  (.node (nB 0) (lB (nB 0) 14) (fB 15)) (.node (nB 0) (lB (nB 0) 14) (fB 15))) (.node (nB 0) (.node (nB 0) (.node (nB 0) (lB (nB 69) 13) (fB 14)) (fB 15)) (.node (nB 0) (lB (nB 0)
  14) (fB 15)))) (.node (nB 0) (.node (nB 0) (fB 16) (.node (nB 0) (lB (nB 0) 14) (fB 15))) (.node (nB 0) (.node (nB 0) (lB (nB 0) 14) (fB 15)) (.node (nB 0) (lB (nB 0) 14) (fB
  15))))) (.node (nB 0) (.node (nB 0) (.node (nB 0) (fB 16) (.node (nB 0) (lB (nB 0) 14) (fB 15))) (.node (nB 0) (.node (nB 0) (lB (nB 0) 14) (fB 15)) (.node (nB 0) (lB (nB 0) 14)
  (fB 15)))) (.node (nB 0) (.node (nB 0) (fB 16) (.node (nB 0) (lB (nB 0) 14) (fB 15))) (.node (nB 0) (.node (nB 0) (lB (nB 0) 14) (fB 15)) (.node (nB 0) (lB (nB 0) 14) (fB 15))))))
  (.node (nB 255) (.node (nB 0) (.node (nB 0) (.node (nB 0) (.node (nB 0) (lB (nB 0) 14) (fB 15)) (.node (nB 0) (lB (nB 0) 14) (fB 15))) (.node (nB 0) (.node (nB 0) (lB (nB 0) 14)
  (fB 15)) (.node (nB 0) (lB (nB 0) 14) (fB 15)))) (.node (nB 0) (.node (nB 0) (fB 16) (.node (nB 0) (lB (nB 0) 14) (fB 15))) (.node (nB 0) (.node (nB 0) (lB (nB 0) 14) (fB 15))
  (.node (nB 0) (lB (nB 0) 14) (fB 15))))) (.node (nB 0) (.node (nB 0) (.node (nB 0) (fB 16) (.node (nB 0) (lB (nB 0) 14) (fB 15))) (.node (nB 0) (.node (nB 0) (lB (nB 0) 14) (fB
  15)) (.node (nB 0) (lB (nB 0) 14) (fB 15)))) (.node (nB 0) (.node (nB 0) (fB 16) (.node (nB 0) (lB (nB 0) 14) (fB 15))) (.node (nB 0) (.node (nB 0) (lB (nB 0) 14) (fB 15)) (.node
  (nB 0) (lB (nB 0) 14) (fB 15)))))))) (.node (nB 73) (.node (nB 0) (.node (nB 0) (.node (nB 0) (.node (nB 0) (.node (nB 0) (.node (nB 0) (lB (nB 0) 14) (fB 15)) (.node (nB 0) (lB
  (nB 0) 14) (fB 15))) (.node (nB 0) (.node (nB 0) (lB (nB 0) 14) (fB 15)) (.node (nB 0) (lB (nB 0) 14) (fB 15)))) (.node (nB 0) (.node (nB 0) (fB 16) (.node (nB 0) (lB (nB 0) 14)
  (fB 15))) (.node (nB 0) (.node (nB 0) (lB (nB 0) 14) (fB 15)) (.node (nB 0) (lB (nB 0) 14) (fB 15))))) (.node (nB 0) (.node (nB 0) (.node (nB 0) (fB 16) (.node (nB 0) (lB (nB 0)
  14) (fB 15))) (.node (nB 0) (.node (nB 0) (lB (nB 0) 14) (fB 15)) (.node (nB 0) (lB (nB 0) 14) (fB 15)))) (.node (nB 0) (.node (nB 0) (fB 16) (.node (nB 0) (lB (nB 0) 14) (fB 15)))
  (.node (nB 0) (.node (nB 0) (lB (nB 0) 14) (fB 15)) (.node (nB 0) (lB (nB 0) 14) (fB 15)))))) (.node (nB 255) (.node (nB 0) (.node (nB 0) (.node (nB 0) (.node (nB 0) (lB (nB 0) 14)
  (fB 15)) (.node (nB 0) (lB (nB 0) 14) (fB 15))) (.node (nB 0) (.node (nB 0) (lB (nB 0) 14) (fB 15)) (.node (nB 0) (lB (nB 0) 14) (fB 15)))) (.node (nB 0) (.node (nB 0) (fB 16)
  (.node (nB 0) (lB (nB 0) 14) (fB 15))) (.node (nB 0) (.node (nB 0) (lB (nB 0) 14) (fB 15)) (.node (nB 0) (lB (nB 0) 14) (fB 15))))) (.node (nB 0) (.node (nB 0) (.node (nB 0) (fB
  16) (.node (nB 0) (lB (nB 0) 14) (fB 15))) (.node (nB 0) (.node (nB 0) (lB (nB 0) 14) (fB 15)) (.node (nB 0) (lB (nB 0) 14) (fB 15)))) (.node (nB 0) (.node (nB 0) (fB 16) (.node
  (nB 0) (lB (nB 0) 14) (fB 15))) (.node (nB 0) (.node (nB 0) (lB (nB 0) 14) (fB 15)) (.node (nB 0) (lB (nB 0) 14) (fB 15))))))) (.node (nB 0) (.node (nB 0) (.node (nB 0) (.node (nB
  0) (.node (nB 0) (.node (nB 0) (lB (nB 0) 14) (fB 15)) (.node (nB 0) (lB (nB 0) 14) (fB 15))) (.node (nB 0) (.node (nB 0) (.node (nB 0) (lB (nB 69) 13) (fB 14)) (fB 15)) (.node (nB
  0) (lB (nB 0) 14) (fB 15)))) (.node (nB 0) (.node (nB 0) (fB 16) (.node (nB 0) (lB (nB 0) 14) (fB 15))) (.node (nB 0) (.node (nB 0) (lB (nB 0) 14) (fB 15)) (.node (nB 0) (lB (nB 0)
  14) (fB 15))))) (.node (nB 0) (.node (nB 0) (.node (nB 0) (fB 16) (.node (nB 0) (lB (nB 0) 14) (fB 15))) (.node (nB 0) (.node (nB 0) (lB (nB 0) 14) (fB 15)) (.node (nB 0) (lB (nB
  0) 14) (fB 15)))) (.node (nB 0) (.node (nB 0) (fB 16) (.node (nB 0) (lB (nB 0) 14) (fB 15))) (.node (nB 0) (.node (nB 0) (lB (nB 0) 14) (fB 15)) (.node (nB 0) (lB (nB 0) 14) (fB
  15)))))) (.node (nB 255) (.node (nB 0) (.node (nB 0) (.node (nB 0) (.node (nB 0) (lB (nB 0) 14) (fB 15)) (.node (nB 0) (lB (nB 0) 14) (fB 15))) (.node (nB 0) (.node (nB 0) (lB (nB
  0) 14) (fB 15)) (.node (nB 0) (lB (nB 0) 14) (fB 15)))) (.node (nB 0) (.node (nB 0) (fB 16) (.node (nB 0) (lB (nB 0) 14) (fB 15))) (.node (nB 0) (.node (nB 0) (lB (nB 0) 14) (fB
  15)) (.node (nB 0) (lB (nB 0) 14) (fB 15))))) (.node (nB 0) (.node (nB 0) (.node (nB 0) (fB 16) (.node (nB 0) (lB (nB 0) 14) (fB 15))) (.node (nB 0) (.node (nB 0) (lB (nB 0) 14)
  (fB 15)) (.node (nB 0) (lB (nB 0) 14) (fB 15)))) (.node (nB 0) (.node (nB 0) (fB 16) (.node (nB 0) (lB (nB 0) 14) (fB 15))) (.node (nB 0) (.node (nB 0) (lB (nB 0) 14) (fB 15))
  (.node (nB 0) (lB (nB 0) 14) (fB 15)))))))))) true false) (fD 20) (lD (.cells 3 1 1 (lA (nI 8) 23) true false) 19)) (.node (.cells 176 22 22 (.node (nU 1088) (.node (nI 0) (.node
  (nU 0) (.node (nU 0) (lA (nU 0) 19) (fA 20)) (.node (nU 0) (lA (nU 0) 19) (fA 20))) (.node (nU 1088) (.node (nU 0) (lA (nU 0) 19) (fA 20)) (.node (nU 0) (lA (nU 0) 19) (fA 20))))
  (.node (nU 0) (.node (nU 0) (.node (nU 0) (lA (nU 0) 19) (fA 20)) (.node (nU 0) (lA (nU 0) 19) (fA 20))) (.node (nU 0) (.node (nU 0) (lA (nU 0) 19) (fA 20)) (lA (nU 0) 20)))) false
  false) (lD (.map [] 0) 19) (.node .dead (fD 19) (.node .dead (fD 18) (.node .dead (fD 17) (.node .dead (fD 16) (.node .dead (lD (.cells 25 1 369 (.node (nU 5929342154728227142)
  (.node (nU 3072) (.node (nU 18446744073709548543) (.node (nU 0) (.node (nU 0) (.node (nU 0) (.node (nU 0) (.node (nU 0) (lA (nU 0) 15) (fA 16)) (.node (nU 0) (lA (nU 0) 15) (fA
  16))) (.node (nU 0) (.node (nU 0) (lA (nU 0) 15) (fA 16)) (.node (nU 0) (lA (nU 0) 15) (fA 16)))) (.node (nU 0) (.node (nU 0) (.node (nU 0) (lA (nU 0) 15) (fA 16)) (.node (nU 0)
  (lA (nU 0) 15) (fA 16))) (.node (nU 0) (.node (nU 0) (lA (nU 0) 15) (fA 16)) (.node (nU 0) (lA (nU 0) 15) (fA 16))))) (.node (nU 0) (.node (nU 0) (.node (nU 0) (.node (nU 0) (lA
  (nU 0) 15) (fA 16)) (.node (nU 0) (lA (nU 0) 15) (fA 16))) (.node (nU 0) (.node (nU 0) (lA (nU 0) 15) (fA 16)) (.node (nU 0) (lA (nU 0) 15) (fA 16)))) (.node (nU 0) (.node (nU 0)
  (.node (nU 0) (lA (nU 0) 15) (fA 16)) (.node (nU 0) (lA (nU 0) 15) (fA 16))) (.node (nU 0) (.node (nU 0) (lA (nU 0) 15) (fA 16)) (lA (nU 0) 16))))) (.node (nU 0) (.node (nU 0)
  (.node (nU 0) (.node (nU 0) (.node (nU 0) (lA (nU 0) 15) (fA 16)) (.node (nU 0) (lA (nU 0) 15) (fA 16))) (.node (nU 0) (.node (nU 0) (lA (nU 0) 15) (fA 16)) (.node (nU 0) (lA (nU
  0) 15) (fA 16)))) (.node (nU 0) (.node (nU 0) (.node (nU 0) (lA (nU 0) 15) (fA 16)) (.node (nU 0) (lA (nU 0) 15) (fA 16))) (.node (nU 0) (.node (nU 0) (lA (nU 0) 15) (fA 16)) (lA
  (nU 0) 16)))) (.node (nU 0) (.node (nU 0) (.node (nU 0) (.node (nU 0) (lA (nU 0) 15) (fA 16)) (.node (nU 0) (lA (nU 0) 15) (fA 16))) (.node (nU 0) (.node (nU 0) (lA (nU 0) 15) (fA
  16)) (.node (nU 0) (lA (nU 0) 15) (fA 16)))) (.node (nU 0) (.node (nU 0) (.node (nU 0) (lA (nU 0) 15) (fA 16)) (.node (nU 0) (lA (nU 0) 15) (fA 16))) (.node (nU 0) (.node (nU 0)
  (lA (nU 0) 15) (fA 16)) (lA (nU 0) 16)))))) (.node (nU 0) (.node (nU 0) (.node (nU 0) (.node (nU 0) (.node (nU 0) (.node (nU 1) (lA (nU 0) 15) (fA 16)) (.node (nU 0) (lA (nU 0) 15)
  (fA 16))) (.node (nU 0) (.node (nU 0) (lA (nU 0) 15) (fA 16)) (.node (nU 0) (lA (nU 0) 15) (fA 16)))) (.node (nU 0) (.node (nU 0) (.node (nU 0) (lA (nU 0) 15) (fA 16)) (.node (nU
  0) (lA (nU 0) 15) (fA 16))) (.node (nU 0) (.node (nU 0) (lA (nU 0) 15) (fA 16)) (lA (nU 0) 16)))) (.node (nU 0) (.node (nU 0) (.node (nU 0) (.node (nU 0) (lA (nU 0) 15) (fA 16))
  (.node (nU 0) (lA (nU 0) 15) (fA 16))) (.node (nU 0) (.node (nU 0) (lA (nU 0) 15) (fA 16)) (.node (nU 0) (lA (nU 0) 15) (fA 16)))) (.node (nU 0) (.node (nU 0) (.node (nU 0) (lA (nU
  0) 15) (fA 16)) (.node (nU 0) (lA (nU 0) 15) (fA 16))) (.node (nU 0) (.node (nU 0) (lA (nU 0) 15) (fA 16)) (lA (nU 0) 16))))) (.node (nU 0) (.node (nU 0) (.node (nU 0) (.node (nU
  0) (.node (nU 0) (lA (nU 0) 15) (fA 16)) (.node (nU 0) (lA (nU 0) 15) (fA 16))) (.node (nU 0) (.node (nU 0) (lA (nU 0) 15) (fA 16)) (.node (nU 0) (lA (nU 0) 15) (fA 16)))) (.node
  (nU 0) (.node (nU 0) (.node (nU 0) (lA (nU 0) 15) (fA 16)) (.node (nU 0) (lA (nU 0) 15) (fA 16))) (.node (nU 0) (.node (nU 0) (lA (nU 0) 15) (fA 16)) (lA (nU 0) 16)))) (.node (nU
  0) (.node (nU 0) (.node (nU 0) (.node (nU 0) (lA (nU 0) 15) (fA 16)) (.node (nU 0) (lA (nU 0) 15) (fA 16))) (.node (nU 0) (.node (nU 0) (lA (nU 0) 15) (fA 16)) (.node (nU 0) (lA
  (nU 0) 15) (fA 16)))) (.node (nU 0) (.node (nU 0) (.node (nU 0) (lA (nU 0) 15) (fA 16)) (.node (nU 0) (lA (nU 0) 15) (fA 16))) (.node (nU 0) (.node (nU 0) (lA (nU 0) 15) (fA 16))
  (lA (nU 0) 16))))))) (.node (nU 1088) (.node (nU 0) (.node (nU 0) (.node (nU 0) (.node (nU 0) (.node (nU 0) (.node (nU 3) (lA (nU 0) 15) (fA 16)) (.node (nU 0) (lA (nU 0) 15) (fA
  16))) (.node (nU 0) (.node (nU 0) (lA (nU 0) 15) (fA 16)) (.node (nU 0) (lA (nU 0) 15) (fA 16)))) (.node (nU 0) (.node (nU 0) (.node (nU 0) (lA (nU 0) 15) (fA 16)) (.node (nU 0)
  (lA (nU 0) 15) (fA 16))) (.node (nU 0) (.node (nU 0) (lA (nU 0) 15) (fA 16)) (.node (nU 0) (lA (nU 0) 15) (fA 16))))) (.node (nU 0) (.node (nU 0) (.node (nU 0) (.node (nU
  5495893775785918464) (lA (nU 0) 15) (fA 16)) (.node (nU 0) (lA (nU 0) 15) (fA 16))) (.node (nU 0) (.node (nU 0) (lA (nU 0) 15) (fA 16)) (.node (nU 0) (lA (nU 0) 15) (fA 16))))
  (.node (nU 0) (.node (nU 0) (.node (nU 0) (lA (nU 0) 15) (fA 16)) (.node (nU 0) (lA (nU 0) 15) (fA 16))) (.node (nU 0) (.node (nU 0) (lA (nU 0) 15) (fA 16)) (lA (nU 0) 16)))))
  (.node (nU 0) (.node (nU 0) (.node (nU 0) (.node (nU 0) (.node (nU 0) (lA (nU 0) 15) (fA 16)) (.node (nU 0) (lA (nU 0) 15) (fA 16))) (.node (nU 0) (.node (nU 0) (lA (nU 0) 15) (fA
  16)) (.node (nU 0) (lA (nU 0) 15) (fA 16)))) (.node (nU 0) (.node (nU 0) (.node (nU 0) (lA (nU 0) 15) (fA 16)) (.node (nU 0) (lA (nU 0) 15) (fA 16))) (.node (nU 0) (.node (nU 0)
  (lA (nU 0) 15) (fA 16)) (lA (nU 0) 16)))) (.node (nU 0) (.node (nU 0) (.node (nU 0) (.node (nU 1088) (lA (nU 0) 15) (fA 16)) (.node (nU 0) (lA (nU 0) 15) (fA 16))) (.node (nU 0)
  (.node (nU 0) (lA (nU 0) 15) (fA 16)) (.node (nU 0) (lA (nU 0) 15) (fA 16)))) (.node (nU 0) (.node (nU 0) (.node (nU 0) (lA (nU 0) 15) (fA 16)) (.node (nU 0) (lA (nU 0) 15) (fA
  16))) (.node (nU 0) (.node (nU 0) (lA (nU 0) 15) (fA 16)) (lA (nU 0) 16)))))) (.node (nU 0) (.node (nU 0) (.node (nU 0) (.node (nU 0) (.node (nU 0) (.node (nU 0) (lA (nU 0) 15) (fA
  16)) (.node (nU 0) (lA (nU 0) 15) (fA 16))) (.node (nU 0) (.node (nU 0) (lA (nU 0) 15) (fA 16)) (.node (nU 0) (lA (nU 0) 15) (fA 16)))) (.node (nU 0) (.node (nU 0) (.node (nU 0)
  (lA (nU 0) 15) (fA 16)) (.node (nU 0) (lA (nU 0) 15) (fA 16))) (.node (nU 0) (.node (nU 0) (lA (nU 0) 15) (fA 16)) (lA (nU 0) 16)))) (.node (nU 0) (.node (nU 0) (.node (nU 0)
  (.node (nU 0) (lA (nU 0) 15) (fA 16)) (.node (nU 0) (lA (nU 0) 15) (fA 16))) (.node (nU 0) (.node (nU 0) (lA (nU 0) 15) (fA 16)) (.node (nU 0) (lA (nU 0) 15) (fA 16)))) (.node (nU
  0) (.node (nU 0) (.node (nU 0) (lA (nU 0) 15) (fA 16)) (.node (nU 0) (lA (nU 0) 15) (fA 16))) (.node (nU 0) (.node (nU 0) (lA (nU 0) 15) (fA 16)) (lA (nU 0) 16))))) (.node (nU 0)
  (.node (nU 0) (.node (nU 0) (.node (nU 0) (.node (nU 0) (lA (nU 0) 15) (fA 16)) (.node (nU 0) (lA (nU 0) 15) (fA 16))) (.node (nU 0) (.node (nU 0) (lA (nU 0) 15) (fA 16)) (.node
  (nU 0) (lA (nU 0) 15) (fA 16)))) (.node (nU 0) (.node (nU 0) (.node (nU 0) (lA (nU 0) 15) (fA 16)) (.node (nU 0) (lA (nU 0) 15) (fA 16))) (.node (nU 0) (.node (nU 0) (lA (nU 0) 15)
  (fA 16)) (lA (nU 0) 16)))) (.node (nU 0) (.node (nU 0) (.node (nU 0) (.node (nU 0) (lA (nU 0) 15) (fA 16)) (.node (nU 0) (lA (nU 0) 15) (fA 16))) (.node (nU 0) (.node (nU 0) (lA
  (nU 0) 15) (fA 16)) (.node (nU 0) (lA (nU 0) 15) (fA 16)))) (.node (nU 0) (.node (nU 0) (.node (nU 0) (lA (nU 0) 15) (fA 16)) (.node (nU 0) (lA (nU 0) 15) (fA 16))) (.node (nU 0)
  (.node (nU 0) (lA (nU 0) 15) (fA 16)) (lA (nU 0) 16)))))))) false false) 14) (fD 15)))))))))), 767⟩,
  [.code (codeAt Tryz.f147 [1, 0, 0, 1, 1]), .lp (codeAt Tryz.f147 [1, 0, 0]),
  .blk 0]⟩
set_option maxRecDepth 1000000 in
theorem part2 : cutR [0, 2, 4, 6, 9, 10, 11, 14, 21, 22, 23, 24, 25, 26, 27, 28, 766] (iterN (stepF ctx) 9100 s1) = .inl s2 := by kernel_rfl
end Go.Proofs.YtelipbpnplcofaaGreat.schedNil
