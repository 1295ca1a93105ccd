/-
  MADE HERE: the states between the parts of the run (printed by a program).
  Conditions: none.
-/
import Derived.Test.YtakcddbpblookaaGreatEngineNilTab
namespace Go.Proofs.YtakcddbpblookaaGreat.engineNil
open Go.Lev
noncomputable def o4 : Fr :=
  ⟨17, 53, [⟨(.coll 196), []⟩], .normal, none, .run, (.node (.sl 100 0 0 3072 (.k 3072)) (.node undefV (.node (nI 0) (.node undefV (lU (.sl 100 0 0 3072 (.k 3072)) 19) (fU 20)) (lU
  (.bool false) 20)) (.node undefV (lU (nI 3072) 20) (lU (.agg [.nilsl, .nilsl, (.map 191), (nU 0), (nU 0), (nU 0), (nU 0)]) 20))) (.node .nil (.node (.ptr 193 0) (.node (.sl 100 0 0
  3072 (.k 3072)) (lU (.fn (.func 80) [] [(.ptr 194 0), (.ptr 195 0)]) 19) (fU 20)) (lU (.map 191) 20)) (.node undefV (lU (.bool true) 20) (lU (.ptr 192 0) 20)))), [.rf 197, .blk 0,
  .code (codeAt Tryz.f17 [1, 1, 1, 1])]⟩
noncomputable def o2 : Fr :=
  ⟨5, 45, [], .normal, none, .run, (.node (.sl 100 0 0 3072 (.k 3072)) (.node (nI 1) (.node undefV (fU 21) (lU (.sl 100 0 0 3072 (.k 3072)) 20)) (lU (nI 0) 21)) (.node undefV (lU
  .nil 21) (fU 22))), [.reg (opsAt Tryz.f5 [1, 0]) ((opsAt Tryz.f5 [1, 0]).toList.drop 1), .code (codeAt Tryz.f5 [1, 1])]⟩
noncomputable def o3 : Fr :=
  ⟨15, 83, [], .normal, none, .run, (.node (.bool false) (.node (.sl 100 0 0 3072 (.k 3072)) (.node undefV (lU (.tup [(.sl 100 0 0 3072 (.k 3072)), (nI 0)]) 20) (fU 21)) (.node
  undefV (lU (.sl 100 0 0 3072 (.k 3072)) 20) (fU 21))) (.node (nI 0) (.node undefV (lU (.tup [(.sl 100 0 0 3072 (.k 3072)), (nI 0)]) 20) (lU (.sl 100 0 0 3072 (.k 3072)) 20)) (.node
  undefV (lU (nI 0) 20) (fU 21)))), [.reg (opsAt Tryz.f15 [1, 1, 0]) ((opsAt Tryz.f15 [1, 1, 0]).toList.drop 1), .code (codeAt Tryz.f15 [1, 1, 1])]⟩
noncomputable def o6 : Fr :=
  ⟨3, 162, [], .normal, none, .run, (.node (.bool false) (.node .nil (.node (.ptr 3 0) (.node .nil (.node (.ptr 93 0) (.node (.tup [(.agg [(nI 0), (nI 0), (nI 0), (nI 0), (nI 0), (nI
  0), (.bool false), (nI 0), (.str (bs [])), .nilsl, (.bool false), (nI 0), (nI 0)]), (nI 1)]) (.node (.tup [.nilsl, (.bool false)]) (lU (nI 0) 16) (fU 17)) (.node (.bool true) (lU
  (.bool true) 16) (fU 17))) (.node (nI 2) (.node (.bool true) (lU (.bool true) 16) (fU 17)) (lU (.bool true) 17))) (.node (.tup [(.agg [(nI 0), (nI 0), (nI 0), (nI 0), (nI 0), (nI
  0), (.bool false), (nI 0), (.str (bs [])), .nilsl, (.bool false), (nI 0), (nI 0)]), (nI 1)]) (.node (.tup [.nil, (nI 2)]) (.node (.tup [.nilsl, (nI 2)]) (lU .nil 16) (fU 17)) (lU
  (.bool true) 17)) (.node (.tup [(.agg [(nI 0), (nI 0), (nI 0), (nI 0), (nI 0), (nI 0), (.bool false), (nI 0), (.str (bs [])), .nilsl, (.bool false), (nI 0), (nI 0)]), (nI 2)])
  (.node (.bool true) (lU (.bool true) 16) (fU 17)) (lU .nil 17)))) (.node .nil (.node .nilsl (.node (.sl 7 0 0 64 (.k 64)) (.node .nil (lU (.bool true) 16) (fU 17)) (lU (.bool true)
  17)) (.node (.ptr 85 0) (.node (.bool true) (lU (.bool true) 16) (fU 17)) (lU (nI 0) 17))) (.node (.agg [(nI 0), (nI 0), (nI 0), (nI 0), (nI 0), (nI 0), (.bool false), (nI 0),
  (.str (bs [])), .nilsl, (.bool false), (nI 0), (nI 0)]) (.node (nI 2) (.node (nI 1) (lU .nil 16) (fU 17)) (lU (.bool true) 17)) (.node (.agg [(nI 0), (nI 0), (nI 0), (nI 0), (nI
  0), (nI 0), (.bool false), (nI 0), (.str (bs [])), .nilsl, (.bool false), (nI 0), (nI 0)]) (.node (.bool true) (lU (.sl 99 0 0 1 (.u 99 0)) 16) (fU 17)) (lU (nI 0) 17))))) (.node
  (.ptr 6 0) (.node .nil (.node .nilsl (.node (nI 1) (.node (.bool false) (lU (nI 0) 16) (fU 17)) (lU (.bool true) 17)) (.node (.sl 59 0 0 64 (.k 64)) (.node (.bool true) (lU .nil
  16) (fU 17)) (lU (.bool true) 17))) (.node (.agg [(nI 4), (nI 0), (nI 0), (nU 0), (nU 0), (nI 0), (.str (bs [])), (nU 0), (nI 0), .nilsl]) (.node (.tup [.nil, (nI 2)]) (.node
  .nilsl (lU (.bool true) 16) (fU 17)) (lU (.bool true) 17)) (.node (.agg [(nI 0), (nI 0), (nI 0), (nU 0), (nU 0), (nI 0), (.str (bs [])), (nU 0), (nI 0), .nilsl]) (.node (.bool
  true) (lU (.bool true) 16) (fU 17)) (lU .nil 17)))) (.node (.ptr 85 0) (.node .nilsl (.node .nil (.node .nilsl (lU (.bool true) 16) (fU 17)) (lU (.bool true) 17)) (.node (.ptr 85
  0) (.node (.bool true) (lU (.ptr 85 0) 16) (fU 17)) (lU (.bool true) 17))) (.node (.tup [(.agg [(nI 0), (nI 0), (nI 0), (nI 0), (nI 0), (nI 0), (.bool false), (nI 0), (.str (bs
  [])), .nilsl, (.bool false), (nI 0), (nI 0)]), (nI 1)]) (.node (.tup [.nil, (nI 2)]) (.node (.bool true) (lU (.bool true) 16) (fU 17)) (lU (.bool true) 17)) (.node (.tup [.nilsl,
  (.bool false)]) (.node (.bool true) (lU (.bool true) 16) (fU 17)) (lU .nilsl 17)))))) (.node (.ptr 0 0) (.node (nI 1) (.node (nI 2) (.node (nI 2) (.node (.agg [(nI 0), (nI 0), (nI
  0), (nI 0), (nI 0), (nI 0), (.bool false), (nI 0), (.str (bs [])), .nilsl, (.bool false), (nI 0), (nI 0)]) (.node .nilsl (lU .nilsl 16) (fU 17)) (lU (.bool true) 17)) (.node (.tup
  [(.ptr 85 0), (nI 0)]) (.node (.bool true) (lU .nil 16) (fU 17)) (lU (.bool true) 17))) (.node .nil (.node (.sl 33 0 0 64 (.k 64)) (.node (.tup [.nilsl, (nI 2)]) (lU (.bool true)
  16) (fU 17)) (lU (.bool true) 17)) (.node (.ptr 85 0) (.node (.bool true) (lU (.bool true) 16) (fU 17)) (lU (nI 0) 17)))) (.node (nI 2) (.node (.bool false) (.node (.tup [.nil, (nI
  2)]) (.node (.tup [.nilsl, (.bool false)]) (lU (.bool true) 16) (fU 17)) (lU (.bool true) 17)) (.node (nI 0) (.node (.bool true) (lU (.bool true) 16) (fU 17)) (lU (.bool true)
  17))) (.node (nI 1) (.node (.tup [.nil, (nI 2)]) (.node (.bool true) (lU .nil 16) (fU 17)) (lU (.bool true) 17)) (.node (nI 2) (.node (.bool true) (lU (nI 1) 16) (fU 17)) (lU .nil
  17))))) (.node (nI 1) (.node (nI 2) (.node (.bool false) (.node (.tup [.nil, (nI 2)]) (.node (.tup [.nilsl, (.bool false)]) (lU (nI 0) 16) (fU 17)) (lU (nI 2) 17)) (.node (.tup
  [(.ptr 85 0), (nI 0)]) (.node (nI 2) (lU (.bool true) 16) (fU 17)) (lU .nil 17))) (.node (.tup [(.agg [(nI 0), (nI 0), (nI 0), (nI 0), (nI 0), (nI 0), (.bool false), (nI 0), (.str
  (bs [])), .nilsl, (.bool false), (nI 0), (nI 0)]), (nI 1)]) (.node .nil (.node (nI 2) (lU (.bool true) 16) (fU 17)) (lU (.bool false) 17)) (.node (.tup [(.agg [(nI 0), (nI 0), (nI
  0), (nI 0), (nI 0), (nI 0), (.bool false), (nI 0), (.str (bs [])), .nilsl, (.bool false), (nI 0), (nI 0)]), (nI 2)]) (.node (nI 2) (lU (.ptr 85 0) 16) (fU 17)) (lU (nI 0) 17))))
  (.node (nI 0) (.node (nI 2) (.node (nI 2) (.node (.bool false) (lU .nil 16) (fU 17)) (lU (nI 2) 17)) (.node (.bool false) (.node (nI 2) (lU (nI 1) 16) (fU 17)) (lU (.bool true)
  17))) (.node (.agg [(nI 4), (nI 0), (nI 0), (nU 0), (nU 0), (nI 0), (.str (bs [])), (nU 0), (nI 0), .nilsl]) (.node .nil (.node (nI 1) (lU (.bool true) 16) (fU 17)) (lU (.bool
  false) 17)) (.node (.ptr 85 0) (.node (nI 0) (lU (.bool true) 16) (fU 17)) (lU (nI 0) 17))))))), [.reg (opsAt Tryz.f3 [1, 1, 1, 1, 1, 1, 1, 1, 1, 1, 1, 1, 1, 1, 0]) ((opsAt Tryz.f3
  [1, 1, 1, 1, 1, 1, 1, 1, 1, 1, 1, 1, 1, 1, 0]).toList.drop 85), .code (codeAt Tryz.f3 [1, 1, 1, 1, 1, 1, 1, 1, 1, 0, 1, 0, 1])]⟩
noncomputable def o1 : Ob :=
  (.cells 39 13 13 (.node (nI 0) (.node (nI 0) (.node (nI 0) (lA (nI 0) 20) (lA (nI 0) 20)) (.node (nI 0) (lA .nilsl 20) (fA 21))) (.node (nI 0) (.node (nI 0) (lA (.str (bs [])) 20)
  (lA (nI 0) 20)) (.node (.bool false) (lA (.bool false) 20) (fA 21)))) true false)
noncomputable def o5 : Ob :=
  (.loop .ready none 17 (.node (.sl 100 0 0 3072 (.k 3072)) (.node undefV (.node (nI 0) (.node undefV (lU (.sl 100 0 0 3072 (.k 3072)) 19) (fU 20)) (lU (.bool false) 20)) (.node
  undefV (lU (nI 3072) 20) (lU (.agg [.nilsl, .nilsl, (.map 191), (nU 0), (nU 0), (nU 0), (nU 0)]) 20))) (.node .nil (.node (.ptr 193 0) (.node (.sl 100 0 0 3072 (.k 3072)) (lU (.fn
  (.func 80) [] [(.ptr 194 0), (.ptr 195 0)]) 19) (fU 20)) (lU (.map 191) 20)) (.node undefV (lU (.bool true) 20) (lU (.ptr 192 0) 20)))) 53 #[17] (codeAt Tryz.f17 [1, 1, 1, 0, 1, 0,
  0]) (codeAt Tryz.f17 [1, 1, 1, 0, 1, 0, 1]) 196)
noncomputable def o7 : Ob :=
  (.cells 5 1 3072 (.node (nB 70) (.node (nB 65) (.node (nB 84) (.node (nB 82) (.node (nB 0) (.node (nB 255) (.node (nB 0) (.node (nB 0) (.node (nB 0) (fB 15) (lB (nB 0) 14)) (.node
  (nB 0) (lB (nB 0) 14) (fB 15))) (.node (nB 0) (fB 16) (.node (nB 0) (lB (nB 0) 14) (fB 15)))) (.node (nB 0) (.node (nB 0) (fB 16) (.node (nB 0) (lB (nB 0) 14) (fB 15))) (.node (nB
  0) (.node (nB 0) (lB (nB 0) 14) (fB 15)) (.node (nB 0) (lB (nB 0) 14) (fB 15))))) (.node (nB 0) (.node (nB 0) (.node (nB 0) (.node (nB 0) (lB (nB 0) 14) (fB 15)) (.node (nB 0) (lB
  (nB 0) 14) (fB 15))) (.node (nB 0) (.node (nB 0) (lB (nB 0) 14) (fB 15)) (.node (nB 0) (lB (nB 0) 14) (fB 15)))) (.node (nB 0) (.node (nB 0) (fB 16) (.node (nB 0) (lB (nB 0) 14)
  (fB 15))) (.node (nB 0) (.node (nB 0) (lB (nB 0) 14) (fB 15)) (.node (nB 0) (lB (nB 0) 14) (fB 15)))))) (.node (nB 0) (.node (nB 0) (.node (nB 0) (.node (nB 0) (.node (nB 0) (lB
  (nB 0) 14) (fB 15)) (.node (nB 0) (lB (nB 0) 14) (fB 15))) (.node (nB 0) (.node (nB 0) (.node (nB 0) (lB (nB 76) 13) (fB 14)) (fB 15)) (.node (nB 0) (lB (nB 0) 14) (fB 15))))
  (.node (nB 0) (.node (nB 0) (fB 16) (.node (nB 0) (lB (nB 0) 14) (fB 15))) (.node (nB 0) (.node (nB 0) (lB (nB 0) 14) (fB 15)) (.node (nB 0) (lB (nB 0) 14) (fB 15))))) (.node (nB
  0) (.node (nB 0) (.node (nB 0) (fB 16) (.node (nB 0) (lB (nB 0) 14) (fB 15))) (.node (nB 0) (.node (nB 0) (lB (nB 0) 14) (fB 15)) (.node (nB 0) (lB (nB 0) 14) (fB 15)))) (.node (nB
  0) (.node (nB 0) (fB 16) (.node (nB 0) (lB (nB 0) 14) (fB 15))) (.node (nB 0) (.node (nB 0) (lB (nB 0) 14) (fB 15)) (.node (nB 0) (lB (nB 0) 14) (fB 15))))))) (.node (nB 0) (.node
  (nB 0) (.node (nB 0) (.node (nB 0) (.node (nB 0) (.node (nB 0) (lB (nB 0) 14) (fB 15)) (.node (nB 0) (lB (nB 0) 14) (fB 15))) (.node (nB 0) (.node (nB 0) (.node (nB 0) (lB (nB 69)
  13) (fB 14)) (fB 15)) (.node (nB 0) (lB (nB 0) 14) (fB 15)))) (.node (nB 0) (.node (nB 0) (fB 16) (.node (nB 0) (lB (nB 0) 14) (fB 15))) (.node (nB 0) (.node (nB 0) (lB (nB 0) 14)
  (fB 15)) (.node (nB 0) (lB (nB 0) 14) (fB 15))))) (.node (nB 0) (.node (nB 0) (.node (nB 0) (fB 16) (.node (nB 0) (lB (nB 0) 14) (fB 15))) (.node (nB 0) (.node (nB 0) (lB (nB 0)
  14) (fB 15)) (.node (nB 0) (lB (nB 0) 14) (fB 15)))) (.node (nB 0) (.node (nB 0) (fB 16) (.node (nB 0) (lB (nB 0) 14) (fB 15))) (.node (nB 0) (.node (nB 0) (lB (nB 0) 14) (fB 15))
  (.node (nB 0) (lB (nB 0) 14) (fB 15)))))) (.node (nB 255) (.node (nB 0) (.node (nB 0) (.node (nB 0) (.node (nB 0) (lB (nB 0) 14) (fB 15)) (.node (nB 0) (lB (nB 0) 14) (fB 15)))
  (.node (nB 0) (.node (nB 0) (lB (nB 0) 14) (fB 15)) (.node (nB 0) (lB (nB 0) 14) (fB 15)))) (.node (nB 0) (.node (nB 0) (fB 16) (.node (nB 0) (lB (nB 0) 14) (fB 15))) (.node (nB 0)
  (.node (nB 0) (lB (nB 0) 14) (fB 15)) (.node (nB 0) (lB (nB 0) 14) (fB 15))))) (.node (nB 0) (.node (nB 0) (.node (nB 0) (fB 16) (.node (nB 0) (lB (nB 0) 14) (fB 15))) (.node (nB
  0) (.node (nB 0) (lB (nB 0) 14) (fB 15)) (.node (nB 0) (lB (nB 0) 14) (fB 15)))) (.node (nB 0) (.node (nB 0) (fB 16) (.node (nB 0) (lB (nB 0) 14) (fB 15))) (.node (nB 0) (.node (nB
  0) (lB (nB 0) 14) (fB 15)) (.node (nB 0) (lB (nB 0) 14) (fB 15)))))))) (.node (nB 65) (.node (nB 12) (.node (nB 4) (.node (nB 0) (.node (nB 0) (.node (nB 0) (.node (nB 0) (lB (nB
  0) 14) (fB 15)) (.node (nB 0) (lB (nB 0) 14) (fB 15))) (.node (nB 0) (.node (nB 0) (lB (nB 0) 14) (fB 15)) (.node (nB 0) (lB (nB 0) 14) (fB 15)))) (.node (nB 0) (.node (nB 0) (fB
  16) (.node (nB 0) (lB (nB 0) 14) (fB 15))) (.node (nB 0) (.node (nB 0) (.node (nB 0) (lB (nB 4) 13) (fB 14)) (fB 15)) (.node (nB 0) (lB (nB 0) 14) (fB 15))))) (.node (nB 0) (.node
  (nB 0) (.node (nB 0) (fB 16) (.node (nB 0) (lB (nB 0) 14) (fB 15))) (.node (nB 0) (.node (nB 0) (lB (nB 0) 14) (fB 15)) (.node (nB 0) (lB (nB 0) 14) (fB 15)))) (.node (nB 0) (.node
  (nB 0) (fB 16) (.node (nB 0) (lB (nB 0) 14) (fB 15))) (.node (nB 0) (.node (nB 0) (lB (nB 0) 14) (fB 15)) (.node (nB 0) (lB (nB 0) 14) (fB 15)))))) (.node (nB 243) (.node (nB 0)
  (.node (nB 0) (.node (nB 0) (.node (nB 0) (lB (nB 0) 14) (fB 15)) (.node (nB 0) (lB (nB 0) 14) (fB 15))) (.node (nB 0) (.node (nB 0) (lB (nB 0) 14) (fB 15)) (.node (nB 0) (lB (nB
  0) 14) (fB 15)))) (.node (nB 0) (.node (nB 0) (fB 16) (.node (nB 0) (lB (nB 0) 14) (fB 15))) (.node (nB 0) (.node (nB 0) (lB (nB 0) 14) (fB 15)) (.node (nB 0) (lB (nB 0) 14) (fB
  15))))) (.node (nB 0) (.node (nB 0) (.node (nB 0) (fB 16) (.node (nB 0) (lB (nB 0) 14) (fB 15))) (.node (nB 0) (.node (nB 0) (lB (nB 0) 14) (fB 15)) (.node (nB 0) (lB (nB 0) 14)
  (fB 15)))) (.node (nB 0) (.node (nB 0) (fB 16) (.node (nB 0) (lB (nB 0) 14) (fB 15))) (.node (nB 0) (.node (nB 0) (lB (nB 0) 14) (fB 15)) (.node (nB 0) (lB (nB 0) 14) (fB 15)))))))
  (.node (nB 0) (.node (nB 0) (.node (nB 0) (.node (nB 0) (.node (nB 0) (.node (nB 0) (lB (nB 0) 14) (fB 15)) (.node (nB 0) (lB (nB 0) 14) (fB 15))) (.node (nB 0) (.node (nB 0)
  (.node (nB 0) (lB (nB 86) 13) (fB 14)) (fB 15)) (.node (nB 0) (lB (nB 0) 14) (fB 15)))) (.node (nB 0) (.node (nB 0) (fB 16) (.node (nB 0) (lB (nB 0) 14) (fB 15))) (.node (nB 0)
  (.node (nB 0) (lB (nB 0) 14) (fB 15)) (.node (nB 0) (lB (nB 0) 14) (fB 15))))) (.node (nB 0) (.node (nB 0) (.node (nB 0) (fB 16) (.node (nB 0) (lB (nB 0) 14) (fB 15))) (.node (nB
  0) (.node (nB 0) (lB (nB 0) 14) (fB 15)) (.node (nB 0) (lB (nB 0) 14) (fB 15)))) (.node (nB 0) (.node (nB 0) (fB 16) (.node (nB 0) (lB (nB 0) 14) (fB 15))) (.node (nB 0) (.node (nB
  0) (lB (nB 0) 14) (fB 15)) (.node (nB 0) (lB (nB 0) 14) (fB 15)))))) (.node (nB 255) (.node (nB 0) (.node (nB 0) (.node (nB 0) (.node (nB 0) (lB (nB 0) 14) (fB 15)) (.node (nB 0)
  (lB (nB 0) 14) (fB 15))) (.node (nB 0) (.node (nB 0) (lB (nB 0) 14) (fB 15)) (.node (nB 0) (lB (nB 0) 14) (fB 15)))) (.node (nB 0) (.node (nB 0) (fB 16) (.node (nB 0) (lB (nB 0)
  14) (fB 15))) (.node (nB 0) (.node (nB 0) (lB (nB 0) 14) (fB 15)) (.node (nB 0) (lB (nB 0) 14) (fB 15))))) (.node (nB 0) (.node (nB 0) (.node (nB 0) (fB 16) (.node (nB 0) (lB (nB
  0) 14) (fB 15))) (.node (nB 0) (.node (nB 0) (lB (nB 0) 14) (fB 15)) (.node (nB 0) (lB (nB 0) 14) (fB 15)))) (.node (nB 0) (.node (nB 0) (fB 16) (.node (nB 0) (lB (nB 0) 14) (fB
  15))) (.node (nB 0) (.node (nB 0) (lB (nB 0) 14) (fB 15)) (.node (nB 0) (lB (nB 0) 14) (fB 15))))))))) (.node (nB 83) (.node (nB 70) (.node (nB 0) (.node (nB 64) (.node (nB 0)
  (.node (nB 0) (.node (nB 0) (.node (nB 0) (.node (nB 0) (lB (nB 3) 13) (fB 14)) (fB 15)) (.node (nB 0) (lB (nB 0) 14) (fB 15))) (.node (nB 0) (.node (nB 0) (lB (nB 0) 14) (fB 15))
  (.node (nB 0) (lB (nB 0) 14) (fB 15)))) (.node (nB 0) (.node (nB 0) (fB 16) (.node (nB 0) (lB (nB 0) 14) (fB 15))) (.node (nB 0) (.node (nB 0) (.node (nB 0) (lB (nB 64) 13) (fB
  14)) (fB 15)) (.node (nB 0) (lB (nB 0) 14) (fB 15))))) (.node (nB 0) (.node (nB 0) (.node (nB 0) (fB 16) (.node (nB 0) (lB (nB 0) 14) (fB 15))) (.node (nB 0) (.node (nB 0) (lB (nB
  0) 14) (fB 15)) (.node (nB 0) (lB (nB 0) 14) (fB 15)))) (.node (nB 0) (.node (nB 0) (fB 16) (.node (nB 0) (lB (nB 0) 14) (fB 15))) (.node (nB 0) (.node (nB 0) (lB (nB 0) 14) (fB
  15)) (.node (nB 0) (lB (nB 0) 14) (fB 15)))))) (.node (nB 255) (.node (nB 0) (.node (nB 0) (.node (nB 0) (.node (nB 0) (.node (nB 0) (lB (nB 1) 13) (fB 14)) (fB 15)) (.node (nB 0)
  (lB (nB 0) 14) (fB 15))) (.node (nB 0) (.node (nB 0) (lB (nB 0) 14) (fB 15)) (.node (nB 0) (lB (nB 0) 14) (fB 15)))) (.node (nB 0) (.node (nB 0) (fB 16) (.node (nB 0) (lB (nB 0)
  14) (fB 15))) (.node (nB 0) (.node (nB 0) (lB (nB 0) 14) (fB 15)) (.node (nB 0) (lB (nB 0) 14) (fB 15))))) (.node (nB 0) (.node (nB 0) (.node (nB 0) (fB 16) (.node (nB 0) (lB (nB
  0) 14) (fB 15))) (.node (nB 0) (.node (nB 0) (lB (nB 0) 14) (fB 15)) (.node (nB 0) (lB (nB 0) 14) (fB 15)))) (.node (nB 0) (.node (nB 0) (fB 16) (.node (nB 0) (lB (nB 0) 14) (fB
  15))) (.node (nB 0) (.node (nB 0) (lB (nB 0) 14) (fB 15)) (.node (nB 0) (lB (nB 0) 14) (fB 15))))))) (.node (nB 0) (.node (nB 0) (.node (nB 0) (.node (nB 0) (.node (nB 0) (.node
  (nB 0) (lB (nB 0) 14) (fB 15)) (.node (nB 0) (lB (nB 0) 14) (fB 15))) (.node (nB 0) (.node (nB 0) (.node (nB 0) (lB (nB 69) 13) (fB 14)) (fB 15)) (.node (nB 0) (lB (nB 0) 14) (fB
  15)))) (.node (nB 0) (.node (nB 0) (fB 16) (.node (nB 0) (lB (nB 0) 14) (fB 15))) (.node (nB 0) (.node (nB 0) (lB (nB 0) 14) (fB 15)) (.node (nB 0) (lB (nB 0) 14) (fB 15)))))
  (.node (nB 0) (.node (nB 0) (.node (nB 0) (fB 16) (.node (nB 0) (lB (nB 0) 14) (fB 15))) (.node (nB 0) (.node (nB 0) (lB (nB 0) 14) (fB 15)) (.node (nB 0) (lB (nB 0) 14) (fB 15))))
  (.node (nB 0) (.node (nB 0) (fB 16) (.node (nB 0) (lB (nB 0) 14) (fB 15))) (.node (nB 0) (.node (nB 0) (lB (nB 0) 14) (fB 15)) (.node (nB 0) (lB (nB 0) 14) (fB 15)))))) (.node (nB
  255) (.node (nB 0) (.node (nB 0) (.node (nB 0) (.node (nB 0) (lB (nB 0) 14) (fB 15)) (.node (nB 0) (lB (nB 0) 14) (fB 15))) (.node (nB 0) (.node (nB 0) (lB (nB 0) 14) (fB 15))
  (.node (nB 0) (lB (nB 0) 14) (fB 15)))) (.node (nB 0) (.node (nB 0) (fB 16) (.node (nB 0) (lB (nB 0) 14) (fB 15))) (.node (nB 0) (.node (nB 0) (lB (nB 0) 14) (fB 15)) (.node (nB 0)
  (lB (nB 0) 14) (fB 15))))) (.node (nB 0) (.node (nB 0) (.node (nB 0) (fB 16) (.node (nB 0) (lB (nB 0) 14) (fB 15))) (.node (nB 0) (.node (nB 0) (lB (nB 0) 14) (fB 15)) (.node (nB
  0) (lB (nB 0) 14) (fB 15)))) (.node (nB 0) (.node (nB 0) (fB 16) (.node (nB 0) (lB (nB 0) 14) (fB 15))) (.node (nB 0) (.node (nB 0) (lB (nB 0) 14) (fB 15)) (.node (nB 0) (lB (nB 0)
  14) (fB 15)))))))) (.node (nB 73) (.node (nB 0) (.node (nB 0) (.node (nB 0) (.node (nB 0) (.node (nB 0) (.node (nB 0) (lB (nB 0) 14) (fB 15)) (.node (nB 0) (lB (nB 0) 14) (fB 15)))
  (.node (nB 0) (.node (nB 0) (lB (nB 0) 14) (fB 15)) (.node (nB 0) (lB (nB 0) 14) (fB 15)))) (.node (nB 0) (.node (nB 0) (fB 16) (.node (nB 0) (lB (nB 0) 14) (fB 15))) (.node (nB 0)
  (.node (nB 0) (lB (nB 0) 14) (fB 15)) (.node (nB 0) (lB (nB 0) 14) (fB 15))))) (.node (nB 0) (.node (nB 0) (.node (nB 0) (fB 16) (.node (nB 0) (lB (nB 0) 14) (fB 15))) (.node (nB
  0) (.node (nB 0) (lB (nB 0) 14) (fB 15)) (.node (nB 0) (lB (nB 0) 14) (fB 15)))) (.node (nB 0) (.node (nB 0) (fB 16) (.node (nB 0) (lB (nB 0) 14) (fB 15))) (.node (nB 0) (.node (nB
  0) (lB (nB 0) 14) (fB 15)) (.node (nB 0) (lB (nB 0) 14) (fB 15)))))) (.node (nB 255) (.node (nB 0) (.node (nB 0) (.node (nB 0) (.node (nB 0) (lB (nB 0) 14) (fB 15)) (.node (nB 0)
  (lB (nB 0) 14) (fB 15))) (.node (nB 0) (.node (nB 0) (lB (nB 0) 14) (fB 15)) (.node (nB 0) (lB (nB 0) 14) (fB 15)))) (.node (nB 0) (.node (nB 0) (fB 16) (.node (nB 0) (lB (nB 0)
  14) (fB 15))) (.node (nB 0) (.node (nB 0) (lB (nB 0) 14) (fB 15)) (.node (nB 0) (lB (nB 0) 14) (fB 15))))) (.node (nB 0) (.node (nB 0) (.node (nB 0) (fB 16) (.node (nB 0) (lB (nB
  0) 14) (fB 15))) (.node (nB 0) (.node (nB 0) (lB (nB 0) 14) (fB 15)) (.node (nB 0) (lB (nB 0) 14) (fB 15)))) (.node (nB 0) (.node (nB 0) (fB 16) (.node (nB 0) (lB (nB 0) 14) (fB
  15))) (.node (nB 0) (.node (nB 0) (lB (nB 0) 14) (fB 15)) (.node (nB 0) (lB (nB 0) 14) (fB 15))))))) (.node (nB 0) (.node (nB 0) (.node (nB 0) (.node (nB 0) (.node (nB 0) (.node
  (nB 0) (lB (nB 0) 14) (fB 15)) (.node (nB 0) (lB (nB 0) 14) (fB 15))) (.node (nB 0) (.node (nB 0) (.node (nB 0) (lB (nB 69) 13) (fB 14)) (fB 15)) (.node (nB 0) (lB (nB 0) 14) (fB
  15)))) (.node (nB 0) (.node (nB 0) (fB 16) (.node (nB 0) (lB (nB 0) 14) (fB 15))) (.node (nB 0) (.node (nB 0) (lB (nB 0) 14) (fB 15)) (.node (nB 0) (lB (nB 0) 14) (fB 15)))))
  (.node (nB 0) (.node (nB 0) (.node (nB 0) (fB 16) (.node (nB 0) (lB (nB 0) 14) (fB 15))) (.node (nB 0) (.node (nB 0) (lB (nB 0) 14) (fB 15)) (.node (nB 0) (lB (nB 0) 14) (fB 15))))
  (.node (nB 0) (.node (nB 0) (fB 16) (.node (nB 0) (lB (nB 0) 14) (fB 15))) (.node (nB 0) (.node (nB 0) (lB (nB 0) 14) (fB 15)) (.node (nB 0) (lB (nB 0) 14) (fB 15)))))) (.node (nB
  255) (.node (nB 0) (.node (nB 0) (.node (nB 0) (.node (nB 0) (lB (nB 0) 14) (fB 15)) (.node (nB 0) (lB (nB 0) 14) (fB 15))) (.node (nB 0) (.node (nB 0) (lB (nB 0) 14) (fB 15))
  (.node (nB 0) (lB (nB 0) 14) (fB 15)))) (.node (nB 0) (.node (nB 0) (fB 16) (.node (nB 0) (lB (nB 0) 14) (fB 15))) (.node (nB 0) (.node (nB 0) (lB (nB 0) 14) (fB 15)) (.node (nB 0)
  (lB (nB 0) 14) (fB 15))))) (.node (nB 0) (.node (nB 0) (.node (nB 0) (fB 16) (.node (nB 0) (lB (nB 0) 14) (fB 15))) (.node (nB 0) (.node (nB 0) (lB (nB 0) 14) (fB 15)) (.node (nB
  0) (lB (nB 0) 14) (fB 15)))) (.node (nB 0) (.node (nB 0) (fB 16) (.node (nB 0) (lB (nB 0) 14) (fB 15))) (.node (nB 0) (.node (nB 0) (lB (nB 0) 14) (fB 15)) (.node (nB 0) (lB (nB 0)
  14) (fB 15)))))))))) true false)
/-- where the run stands at the end of part 1 -/
noncomputable def s1 : St :=
  ⟨⟨80, 31, [], .normal, none,
  [o4,
    o2,
    o3,
    o6]⟩,
  .run,
  (.node (.yld 197) (.node (.ptr 194 0) (.node undefV (.node (.sl 100 0 0 3072 (.k 3072)) (lU (nI 424) 19) (lU
  (nI 8) 19)) (.node (nI 8) (lU (.yld 197) 19) (lU (nI 432) 19))) (.node (nI 8) (.node (.bool true) (lU (nI 2648) 19) (lU (nI 424) 19)) (.node (nI 8) (lU (nI 424) 19) (lU (.bool
  true) 19)))) (.node (.ptr 195 0) (.node (nI 424) (.node (nI 3072) (lU (.sl 100 424 0 2648 (.k 2648)) 19) (lU (nI 432) 19)) (.node (nI 424) (lU (.sl 100 0 0 3072 (.k 3072)) 19) (lU
  (.sl 100 424 0 8 (.k 8)) 19))) (.node (nI 424) (.node (nI 416) (lU (nI 8) 19) (lU (nI 8) 19)) (.node (.sl 100 0 0 3072 (.k 3072)) (lU (nI 424) 19) (lU (.bool false) 19))))),
 
  ⟨(.node (.cells 31 10 10 (.node .nil (.node (nI 0) (.node (nI 0) (lA .nil 20) (fA 21)) (.node (.bool false) (lA .nilfn 20) (fA 21))) (.node (nI 0) (.node .nilsl (lA .nil 20) (fA
  21)) (lA .nilsl 21))) true false) (.node .dead (.node o1 (.node (.cells 5 1 64 (fB 24) true false) (.node .dead (.node .dead (.node .dead (fD 17) (lD (.map [] 0) 16)) (fD 18)) (fD
  19)) (fD 20)) (.node .dead (.node .dead (.node .dead (.node .dead (fD 17) (lD (.cells 3 1 1 (lA (nI 8) 23) true false) 16)) (lD (.cells 99 3 3 (.node .nilsl (lA .nilsl 22) (lA
  (.bool false) 22)) false false) 17)) (fD 19)) (.node .dead (fD 19) (lD (.cells 5 1 64 (fB 24) true false) 18)))) (.node .dead (.node .dead (.node .dead (.node (.cells 5 1 64 (fB
  24) true false) (.node .dead (fD 17) (lD (.cells 23 1 1 (lA (.ptr 192 0) 23) true false) 16)) (fD 18)) (.node .dead (fD 18) (.node .dead (.node .dead (lD (.cells 43 1 54 (.node (nU
  5929342154728227142) (.node (nU 3072) (.node (nU 18446744073709548543) (.node (nU 0) (.node (nU 0) (lA (nU 0) 18) (lA (nU 0) 18)) (.node (nU 0) (lA (nU 0) 18) (fA 19))) (.node (nU
  0) (.node (nU 0) (lA (nU 0) 18) (lA (nU 0) 18)) (.node (nU 0) (lA (nU 0) 18) (fA 19)))) (.node (nU 0) (.node (nU 0) (.node (nU 0) (lA (nU 0) 18) (lA (nU 0) 18)) (.node (nU 0) (lA
  (nU 0) 18) (fA 19))) (.node (nU 0) (.node (nU 0) (lA (nU 0) 18) (lA (nU 0) 18)) (.node (nU 0) (lA (nU 0) 18) (fA 19))))) (.node (nU 1088) (.node (nU 0) (.node (nU 0) (.node (nU 0)
  (lA (nU 0) 18) (lA (nU 0) 18)) (.node (nU 0) (lA (nU 0) 18) (fA 19))) (.node (nU 0) (.node (nU 0) (lA (nU 0) 18) (lA (nU 0) 18)) (.node (nU 0) (lA (nU 0) 18) (fA 19)))) (.node (nU
  0) (.node (nU 0) (.node (nU 0) (lA (nU 0) 18) (lA (nU 0) 18)) (.node (nU 0) (lA (nU 0) 18) (fA 19))) (.node (nU 0) (.node (nU 0) (lA (nU 0) 18) (fA 19)) (.node (nU 0) (lA (nU 0)
  18) (fA 19)))))) false false) 15) (fD 16)) (fD 17)))) (fD 20)) (.node .dead (.node .dead (.node .dead (.node .dead (fD 17) (lD o5 16)) (fD 18)) (.node .dead (lD (.cells 31 10 10
  (.node (.ptr 61 0) (.node (nI 1) (.node (nI 0) (lA .nil 20) (fA 21)) (.node (.bool false) (lA .nilfn 20) (fA 21))) (.node (nI 1) (.node .nilsl (lA .nil 20) (fA 21)) (lA .nilsl
  21))) true false) 17) (fD 18))) (.node .dead (fD 19) (.node (.cells 114 7 7 (.node (.sl 84 0 0 8 (.u 84 0)) (.node (.sl 82 0 0 8 (.u 82 0)) (lA (nU 0) 21) (lA (nU 0) 21)) (.node
  (.map 60) (lA (nU 0) 21) (lA (nU 0) 21))) true false) (lD o1 17) (fD 18)))))) (.node .dead (.node .dead (.node .dead (.node .dead (.node .dead (.node .dead (fD 17) (lD (.cells 114
  7 7 (.node .nilsl (.node (.sl 305 0 0 54 (.u 305 0)) (lA (nU 0) 21) (lA (nU 0) 21)) (.node (.map 191) (lA (nU 0) 21) (lA (nU 0) 21))) true false) 16)) (fD 18)) (fD 19)) (fD 20))
  (.node .dead (.node .dead (.node .dead (.node .dead (fD 17) (lD (.defd (some [])) 16)) (lD o7 17)) (.node .dead (lD (.cells 43 1 8 (.node (nU 0) (.node (nU 0) (.node (nU 0) (lA (nU
  0) 20) (fA 21)) (lA (nU 0) 21)) (.node (nU 0) (lA (nU 0) 21) (lA (nU 0) 21))) false false) 17) (fD 18))) (.node .dead (fD 19) (lD (.map [] 0) 18)))) (.node o1 (.node .dead (.node
  .dead (.node .dead (.node .dead (fD 17) (lD (.cells 52 1 1 (lA (.sl 100 0 0 3072 (.k 3072)) 23) true false) 16)) (fD 18)) (.node .dead (lD (.cells 43 1 8 (.node (nU 0) (.node (nU
  0) (.node (nU 0) (lA (nU 0) 20) (fA 21)) (lA (nU 0) 21)) (.node (nU 0) (lA (nU 0) 21) (lA (nU 0) 21))) false false) 17) (fD 18))) (fD 20)) (fD 21)))), 306⟩,
  [.reg (opsAt Tryz.f80
  [1, 0, 0, 1, 0, 0, 1, 0]) ((opsAt Tryz.f80 [1, 0, 0, 1, 0, 0, 1, 0]).toList.drop 11), .code (codeAt Tryz.f80 [1, 0, 0, 1, 0, 0, 1, 1]), .blk 1, .code (codeAt Tryz.f80 [1, 0, 0, 1,
  1]), .lp (codeAt Tryz.f80 [1, 0, 0]), .blk 0]⟩
/-- where the run stands at the end of part 2 -/
noncomputable def s2 : St :=
  ⟨⟨80, 31, [], .normal, none,
  [o4,
    o2,
    o3,
    o6]⟩,
  .run,
  (.node (.yld 197) (.node (.ptr 194 0) (.node undefV (.node (.sl 100 0 0 3072 (.k 3072)) (lU (nI 1464) 19)
  (lU (nI 8) 19)) (.node (nI 8) (lU (.yld 197) 19) (lU (nI 1472) 19))) (.node (nI 8) (.node (.bool true) (lU (nI 1608) 19) (lU (nI 1464) 19)) (.node (nI 8) (lU (nI 1464) 19) (lU
  (.bool true) 19)))) (.node (.ptr 195 0) (.node (nI 1464) (.node (nI 3072) (lU (.sl 100 1464 0 1608 (.k 1608)) 19) (lU (nI 1472) 19)) (.node (nI 1464) (lU (.sl 100 0 0 3072 (.k
  3072)) 19) (lU (.sl 100 1464 0 8 (.k 8)) 19))) (.node (nI 1464) (.node (nI 1456) (lU (nI 8) 19) (lU (nI 8) 19)) (.node (.sl 100 0 0 3072 (.k 3072)) (lU (nI 1464) 19) (lU (.bool
  false) 19))))),
  ⟨(.node (.cells 31 10 10 (.node .nil (.node (nI 0) (.node (nI 0) (lA .nil 20) (fA 21)) (.node (.bool false) (lA .nilfn 20) (fA 21))) (.node (nI 0) (.node .nilsl
  (lA .nil 20) (fA 21)) (lA .nilsl 21))) true false) (.node .dead (.node o1 (.node (.cells 5 1 64 (fB 24) true false) (.node .dead (.node .dead (.node .dead (fD 17) (lD (.map [] 0)
  16)) (fD 18)) (fD 19)) (fD 20)) (.node .dead (.node .dead (.node .dead (.node .dead (fD 17) (lD (.cells 3 1 1 (lA (nI 8) 23) true false) 16)) (lD (.cells 99 3 3 (.node .nilsl (lA
  .nilsl 22) (lA (.bool false) 22)) false false) 17)) (fD 19)) (.node .dead (fD 19) (lD (.cells 5 1 64 (fB 24) true false) 18)))) (.node .dead (.node .dead (.node .dead (.node
  (.cells 5 1 64 (fB 24) true false) (.node .dead (fD 17) (lD (.cells 23 1 1 (lA (.ptr 192 0) 23) true false) 16)) (fD 18)) (fD 19)) (fD 20)) (.node .dead (.node .dead (.node .dead
  (.node .dead (fD 17) (lD o5 16)) (fD 18)) (.node .dead (lD (.cells 31 10 10 (.node (.ptr 61 0) (.node (nI 1) (.node (nI 0) (lA .nil 20) (fA 21)) (.node (.bool false) (lA .nilfn 20)
  (fA 21))) (.node (nI 1) (.node .nilsl (lA .nil 20) (fA 21)) (lA .nilsl 21))) true false) 17) (.node .dead (.node .dead (.node .dead (lD (.cells 43 1 184 (.node (nU
  5929342154728227142) (.node (nU 3072) (.node (nU 18446744073709548543) (.node (nU 0) (.node (nU 0) (.node (nU 0) (.node (nU 0) (lA (nU 0) 16) (fA 17)) (.node (nU 0) (lA (nU 0) 16)
  (fA 17))) (.node (nU 0) (.node (nU 0) (lA (nU 0) 16) (fA 17)) (.node (nU 0) (lA (nU 0) 16) (fA 17)))) (.node (nU 0) (.node (nU 0) (.node (nU 0) (lA (nU 0) 16) (fA 17)) (.node (nU
  0) (lA (nU 0) 16) (fA 17))) (.node (nU 0) (.node (nU 0) (lA (nU 0) 16) (fA 17)) (.node (nU 0) (lA (nU 0) 16) (fA 17))))) (.node (nU 0) (.node (nU 0) (.node (nU 0) (.node (nU 0) (lA
  (nU 0) 16) (fA 17)) (.node (nU 0) (lA (nU 0) 16) (fA 17))) (.node (nU 0) (.node (nU 0) (lA (nU 0) 16) (fA 17)) (.node (nU 0) (lA (nU 0) 16) (fA 17)))) (.node (nU 0) (.node (nU 0)
  (.node (nU 0) (lA (nU 0) 16) (fA 17)) (.node (nU 0) (lA (nU 0) 16) (fA 17))) (.node (nU 0) (.node (nU 0) (lA (nU 0) 16) (fA 17)) (lA (nU 0) 17))))) (.node (nU 0) (.node (nU 0)
  (.node (nU 0) (.node (nU 0) (.node (nU 0) (lA (nU 1) 16) (fA 17)) (.node (nU 0) (lA (nU 0) 16) (fA 17))) (.node (nU 0) (.node (nU 0) (lA (nU 0) 16) (fA 17)) (.node (nU 0) (lA (nU
  0) 16) (fA 17)))) (.node (nU 0) (.node (nU 0) (.node (nU 0) (lA (nU 0) 16) (fA 17)) (.node (nU 0) (lA (nU 0) 16) (fA 17))) (.node (nU 0) (.node (nU 0) (lA (nU 0) 16) (fA 17)) (lA
  (nU 0) 17)))) (.node (nU 0) (.node (nU 0) (.node (nU 0) (.node (nU 0) (lA (nU 0) 16) (fA 17)) (.node (nU 0) (lA (nU 0) 16) (fA 17))) (.node (nU 0) (.node (nU 0) (lA (nU 0) 16) (fA
  17)) (.node (nU 0) (lA (nU 0) 16) (fA 17)))) (.node (nU 0) (.node (nU 0) (.node (nU 0) (lA (nU 0) 16) (fA 17)) (.node (nU 0) (lA (nU 0) 16) (fA 17))) (.node (nU 0) (.node (nU 0)
  (lA (nU 0) 16) (fA 17)) (lA (nU 0) 17)))))) (.node (nU 1088) (.node (nU 0) (.node (nU 0) (.node (nU 0) (.node (nU 0) (.node (nU 0) (lA (nU 3) 16) (fA 17)) (.node (nU 0) (lA (nU 0)
  16) (fA 17))) (.node (nU 0) (.node (nU 0) (lA (nU 0) 16) (fA 17)) (.node (nU 0) (lA (nU 0) 16) (fA 17)))) (.node (nU 0) (.node (nU 0) (.node (nU 0) (lA (nU 5495893775785918464) 16)
  (fA 17)) (.node (nU 0) (lA (nU 0) 16) (fA 17))) (.node (nU 0) (.node (nU 0) (lA (nU 0) 16) (fA 17)) (lA (nU 0) 17)))) (.node (nU 0) (.node (nU 0) (.node (nU 0) (.node (nU 0) (lA
  (nU 0) 16) (fA 17)) (.node (nU 0) (lA (nU 0) 16) (fA 17))) (.node (nU 0) (.node (nU 0) (lA (nU 0) 16) (fA 17)) (.node (nU 0) (lA (nU 0) 16) (fA 17)))) (.node (nU 0) (.node (nU 0)
  (.node (nU 0) (lA (nU 1088) 16) (fA 17)) (.node (nU 0) (lA (nU 0) 16) (fA 17))) (.node (nU 0) (.node (nU 0) (lA (nU 0) 16) (fA 17)) (lA (nU 0) 17))))) (.node (nU 0) (.node (nU 0)
  (.node (nU 0) (.node (nU 0) (.node (nU 0) (lA (nU 0) 16) (fA 17)) (.node (nU 0) (lA (nU 0) 16) (fA 17))) (.node (nU 0) (.node (nU 0) (lA (nU 0) 16) (fA 17)) (.node (nU 0) (lA (nU
  0) 16) (fA 17)))) (.node (nU 0) (.node (nU 0) (.node (nU 0) (lA (nU 0) 16) (fA 17)) (.node (nU 0) (lA (nU 0) 16) (fA 17))) (.node (nU 0) (.node (nU 0) (lA (nU 0) 16) (fA 17)) (lA
  (nU 0) 17)))) (.node (nU 0) (.node (nU 0) (.node (nU 0) (.node (nU 0) (lA (nU 0) 16) (fA 17)) (.node (nU 0) (lA (nU 0) 16) (fA 17))) (.node (nU 0) (.node (nU 0) (lA (nU 0) 16) (fA
  17)) (.node (nU 0) (lA (nU 0) 16) (fA 17)))) (.node (nU 0) (.node (nU 0) (.node (nU 0) (lA (nU 0) 16) (fA 17)) (.node (nU 0) (lA (nU 0) 16) (fA 17))) (.node (nU 0) (.node (nU 0)
  (lA (nU 0) 16) (fA 17)) (lA (nU 0) 17))))))) false false) 14) (fD 15)) (fD 16)) (fD 17)))) (.node .dead (fD 19) (.node (.cells 114 7 7 (.node (.sl 84 0 0 8 (.u 84 0)) (.node (.sl
  82 0 0 8 (.u 82 0)) (lA (nU 0) 21) (lA (nU 0) 21)) (.node (.map 60) (lA (nU 0) 21) (lA (nU 0) 21))) true false) (lD o1 17) (fD 18)))))) (.node .dead (.node .dead (.node .dead
  (.node .dead (.node .dead (.node .dead (fD 17) (lD (.cells 114 7 7 (.node .nilsl (.node (.sl 565 0 0 184 (.u 565 0)) (lA (nU 0) 21) (lA (nU 0) 21)) (.node (.map 191) (lA (nU 0) 21)
  (lA (nU 0) 21))) true false) 16)) (fD 18)) (fD 19)) (fD 20)) (.node .dead (.node .dead (.node .dead (.node .dead (fD 17) (lD (.defd (some [])) 16)) (lD o7 17)) (.node .dead (lD
  (.cells 43 1 8 (.node (nU 0) (.node (nU 0) (.node (nU 0) (lA (nU 0) 20) (fA 21)) (lA (nU 0) 21)) (.node (nU 0) (lA (nU 0) 21) (lA (nU 0) 21))) false false) 17) (fD 18))) (.node
  .dead (fD 19) (lD (.map [] 0) 18)))) (.node o1 (.node .dead (.node .dead (.node .dead (.node .dead (fD 17) (lD (.cells 52 1 1 (lA (.sl 100 0 0 3072 (.k 3072)) 23) true false) 16))
  (fD 18)) (.node .dead (lD (.cells 43 1 8 (.node (nU 0) (.node (nU 0) (.node (nU 0) (lA (nU 0) 20) (fA 21)) (lA (nU 0) 21)) (.node (nU 0) (lA (nU 0) 21) (lA (nU 0) 21))) false
  false) 17) (fD 18))) (fD 20)) (fD 21)))), 566⟩,
  [.reg (opsAt Tryz.f80 [1, 0, 0, 1, 0, 0, 1, 0]) ((opsAt Tryz.f80 [1, 0, 0, 1, 0, 0, 1, 0]).toList.drop 11), .code (codeAt Tryz.f80
  [1, 0, 0, 1, 0, 0, 1, 1]), .blk 1, .code (codeAt Tryz.f80 [1, 0, 0, 1, 1]), .lp (codeAt Tryz.f80 [1, 0, 0]), .blk 0]⟩
/-- where the run stands at the end of part 3 -/
noncomputable def s3 : St :=
  ⟨⟨80, 31, [], .normal, none,
  [o4,
    o2,
    o3,
    o6]⟩,
  .run,
  (.node (.yld 197) (.node (.ptr 194 0) (.node undefV (.node (.sl 100 0 0 3072 (.k 3072)) (lU (nI 2504) 19)
  (lU (nI 8) 19)) (.node (nI 8) (lU (.yld 197) 19) (lU (nI 2512) 19))) (.node (nI 8) (.node (.bool true) (lU (nI 568) 19) (lU (nI 2504) 19)) (.node (nI 8) (lU (nI 2504) 19) (lU
  (.bool true) 19)))) (.node (.ptr 195 0) (.node (nI 2504) (.node (nI 3072) (lU (.sl 100 2504 0 568 (.k 568)) 19) (lU (nI 2512) 19)) (.node (nI 2504) (lU (.sl 100 0 0 3072 (.k 3072))
  19) (lU (.sl 100 2504 0 8 (.k 8)) 19))) (.node (nI 2504) (.node (nI 2496) (lU (nI 8) 19) (lU (nI 8) 19)) (.node (.sl 100 0 0 3072 (.k 3072)) (lU (nI 2504) 19) (lU (.bool false)
  19))))),
  ⟨(.node (.cells 31 10 10 (.node .nil (.node (nI 0) (.node (nI 0) (lA .nil 20) (fA 21)) (.node (.bool false) (lA .nilfn 20) (fA 21))) (.node (nI 0) (.node .nilsl (lA .nil
  20) (fA 21)) (lA .nilsl 21))) true false) (.node .dead (.node o1 (.node (.cells 5 1 64 (fB 24) true false) (.node .dead (.node .dead (.node .dead (fD 17) (lD (.map [] 0) 16)) (fD
  18)) (fD 19)) (fD 20)) (.node .dead (.node .dead (.node .dead (.node .dead (fD 17) (lD (.cells 3 1 1 (lA (nI 8) 23) true false) 16)) (lD (.cells 99 3 3 (.node .nilsl (lA .nilsl 22)
  (lA (.bool false) 22)) false false) 17)) (fD 19)) (.node .dead (fD 19) (lD (.cells 5 1 64 (fB 24) true false) 18)))) (.node .dead (.node .dead (.node .dead (.node (.cells 5 1 64
  (fB 24) true false) (.node .dead (fD 17) (lD (.cells 23 1 1 (lA (.ptr 192 0) 23) true false) 16)) (fD 18)) (fD 19)) (.node .dead (fD 19) (.node .dead (fD 18) (.node .dead (.node
  .dead (.node .dead (fD 15) (lD (.cells 43 1 314 (.node (nU 5929342154728227142) (.node (nU 3072) (.node (nU 18446744073709548543) (.node (nU 0) (.node (nU 0) (.node (nU 0) (.node
  (nU 0) (.node (nU 0) (lA (nU 0) 15) (fA 16)) (lA (nU 0) 16)) (.node (nU 0) (.node (nU 0) (lA (nU 0) 15) (fA 16)) (lA (nU 0) 16))) (.node (nU 0) (.node (nU 0) (.node (nU 0) (lA (nU
  0) 15) (fA 16)) (lA (nU 0) 16)) (.node (nU 0) (.node (nU 0) (lA (nU 0) 15) (fA 16)) (lA (nU 0) 16)))) (.node (nU 0) (.node (nU 0) (.node (nU 0) (.node (nU 0) (lA (nU 0) 15) (fA
  16)) (lA (nU 0) 16)) (.node (nU 0) (.node (nU 0) (lA (nU 0) 15) (fA 16)) (lA (nU 0) 16))) (.node (nU 0) (.node (nU 0) (.node (nU 0) (lA (nU 0) 15) (fA 16)) (lA (nU 0) 16)) (.node
  (nU 0) (.node (nU 0) (lA (nU 0) 15) (fA 16)) (lA (nU 0) 16))))) (.node (nU 0) (.node (nU 0) (.node (nU 0) (.node (nU 0) (.node (nU 0) (lA (nU 0) 15) (fA 16)) (lA (nU 0) 16)) (.node
  (nU 0) (.node (nU 0) (lA (nU 0) 15) (fA 16)) (lA (nU 0) 16))) (.node (nU 0) (.node (nU 0) (.node (nU 0) (lA (nU 0) 15) (fA 16)) (lA (nU 0) 16)) (.node (nU 0) (.node (nU 0) (lA (nU
  0) 15) (fA 16)) (lA (nU 0) 16)))) (.node (nU 0) (.node (nU 0) (.node (nU 0) (.node (nU 0) (lA (nU 0) 15) (fA 16)) (lA (nU 0) 16)) (.node (nU 0) (.node (nU 0) (lA (nU 0) 15) (fA
  16)) (lA (nU 0) 16))) (.node (nU 0) (.node (nU 0) (.node (nU 0) (lA (nU 0) 15) (fA 16)) (lA (nU 0) 16)) (.node (nU 0) (lA (nU 0) 16) (lA (nU 0) 16)))))) (.node (nU 0) (.node (nU 0)
  (.node (nU 0) (.node (nU 0) (.node (nU 0) (.node (nU 1) (lA (nU 0) 15) (fA 16)) (lA (nU 0) 16)) (.node (nU 0) (.node (nU 0) (lA (nU 0) 15) (fA 16)) (lA (nU 0) 16))) (.node (nU 0)
  (.node (nU 0) (.node (nU 0) (lA (nU 0) 15) (fA 16)) (lA (nU 0) 16)) (.node (nU 0) (.node (nU 0) (lA (nU 0) 15) (fA 16)) (lA (nU 0) 16)))) (.node (nU 0) (.node (nU 0) (.node (nU 0)
  (.node (nU 0) (lA (nU 0) 15) (fA 16)) (lA (nU 0) 16)) (.node (nU 0) (.node (nU 0) (lA (nU 0) 15) (fA 16)) (lA (nU 0) 16))) (.node (nU 0) (.node (nU 0) (.node (nU 0) (lA (nU 0) 15)
  (fA 16)) (lA (nU 0) 16)) (.node (nU 0) (.node (nU 0) (lA (nU 0) 15) (fA 16)) (lA (nU 0) 16))))) (.node (nU 0) (.node (nU 0) (.node (nU 0) (.node (nU 0) (.node (nU 0) (lA (nU 0) 15)
  (fA 16)) (lA (nU 0) 16)) (.node (nU 0) (.node (nU 0) (lA (nU 0) 15) (fA 16)) (lA (nU 0) 16))) (.node (nU 0) (.node (nU 0) (.node (nU 0) (lA (nU 0) 15) (fA 16)) (lA (nU 0) 16))
  (.node (nU 0) (.node (nU 0) (lA (nU 0) 15) (fA 16)) (lA (nU 0) 16)))) (.node (nU 0) (.node (nU 0) (.node (nU 0) (.node (nU 0) (lA (nU 0) 15) (fA 16)) (lA (nU 0) 16)) (.node (nU 0)
  (.node (nU 0) (lA (nU 0) 15) (fA 16)) (lA (nU 0) 16))) (.node (nU 0) (.node (nU 0) (.node (nU 0) (lA (nU 0) 15) (fA 16)) (lA (nU 0) 16)) (.node (nU 0) (lA (nU 0) 16) (lA (nU 0)
  16))))))) (.node (nU 1088) (.node (nU 0) (.node (nU 0) (.node (nU 0) (.node (nU 0) (.node (nU 0) (.node (nU 3) (lA (nU 0) 15) (fA 16)) (lA (nU 0) 16)) (.node (nU 0) (.node (nU 0)
  (lA (nU 0) 15) (fA 16)) (lA (nU 0) 16))) (.node (nU 0) (.node (nU 0) (.node (nU 0) (lA (nU 0) 15) (fA 16)) (lA (nU 0) 16)) (.node (nU 0) (.node (nU 0) (lA (nU 0) 15) (fA 16)) (lA
  (nU 0) 16)))) (.node (nU 0) (.node (nU 0) (.node (nU 0) (.node (nU 5495893775785918464) (lA (nU 0) 15) (fA 16)) (lA (nU 0) 16)) (.node (nU 0) (.node (nU 0) (lA (nU 0) 15) (fA 16))
  (lA (nU 0) 16))) (.node (nU 0) (.node (nU 0) (.node (nU 0) (lA (nU 0) 15) (fA 16)) (lA (nU 0) 16)) (.node (nU 0) (.node (nU 0) (lA (nU 0) 15) (fA 16)) (lA (nU 0) 16))))) (.node (nU
  0) (.node (nU 0) (.node (nU 0) (.node (nU 0) (.node (nU 0) (lA (nU 0) 15) (fA 16)) (lA (nU 0) 16)) (.node (nU 0) (.node (nU 0) (lA (nU 0) 15) (fA 16)) (lA (nU 0) 16))) (.node (nU
  0) (.node (nU 0) (.node (nU 0) (lA (nU 0) 15) (fA 16)) (lA (nU 0) 16)) (.node (nU 0) (.node (nU 0) (lA (nU 0) 15) (fA 16)) (lA (nU 0) 16)))) (.node (nU 0) (.node (nU 0) (.node (nU
  0) (.node (nU 1088) (lA (nU 0) 15) (fA 16)) (lA (nU 0) 16)) (.node (nU 0) (.node (nU 0) (lA (nU 0) 15) (fA 16)) (lA (nU 0) 16))) (.node (nU 0) (.node (nU 0) (.node (nU 0) (lA (nU
  0) 15) (fA 16)) (lA (nU 0) 16)) (.node (nU 0) (lA (nU 0) 16) (lA (nU 0) 16)))))) (.node (nU 0) (.node (nU 0) (.node (nU 0) (.node (nU 0) (.node (nU 0) (.node (nU 0) (lA (nU 0) 15)
  (fA 16)) (lA (nU 0) 16)) (.node (nU 0) (.node (nU 0) (lA (nU 0) 15) (fA 16)) (lA (nU 0) 16))) (.node (nU 0) (.node (nU 0) (.node (nU 0) (lA (nU 0) 15) (fA 16)) (lA (nU 0) 16))
  (.node (nU 0) (.node (nU 0) (lA (nU 0) 15) (fA 16)) (lA (nU 0) 16)))) (.node (nU 0) (.node (nU 0) (.node (nU 0) (.node (nU 0) (lA (nU 0) 15) (fA 16)) (lA (nU 0) 16)) (.node (nU 0)
  (.node (nU 0) (lA (nU 0) 15) (fA 16)) (lA (nU 0) 16))) (.node (nU 0) (.node (nU 0) (.node (nU 0) (lA (nU 0) 15) (fA 16)) (lA (nU 0) 16)) (.node (nU 0) (lA (nU 0) 16) (lA (nU 0)
  16))))) (.node (nU 0) (.node (nU 0) (.node (nU 0) (.node (nU 0) (.node (nU 0) (lA (nU 0) 15) (fA 16)) (lA (nU 0) 16)) (.node (nU 0) (.node (nU 0) (lA (nU 0) 15) (fA 16)) (lA (nU 0)
  16))) (.node (nU 0) (.node (nU 0) (.node (nU 0) (lA (nU 0) 15) (fA 16)) (lA (nU 0) 16)) (.node (nU 0) (.node (nU 0) (lA (nU 0) 15) (fA 16)) (lA (nU 0) 16)))) (.node (nU 0) (.node
  (nU 0) (.node (nU 0) (.node (nU 0) (lA (nU 0) 15) (fA 16)) (lA (nU 0) 16)) (.node (nU 0) (.node (nU 0) (lA (nU 0) 15) (fA 16)) (lA (nU 0) 16))) (.node (nU 0) (.node (nU 0) (.node
  (nU 0) (lA (nU 0) 15) (fA 16)) (lA (nU 0) 16)) (.node (nU 0) (lA (nU 0) 16) (lA (nU 0) 16)))))))) false false) 14)) (fD 16)) (fD 17))))) (.node .dead (.node .dead (.node .dead
  (.node .dead (fD 17) (lD o5 16)) (fD 18)) (.node .dead (lD (.cells 31 10 10 (.node (.ptr 61 0) (.node (nI 1) (.node (nI 0) (lA .nil 20) (fA 21)) (.node (.bool false) (lA .nilfn 20)
  (fA 21))) (.node (nI 1) (.node .nilsl (lA .nil 20) (fA 21)) (lA .nilsl 21))) true false) 17) (fD 18))) (.node .dead (fD 19) (.node (.cells 114 7 7 (.node (.sl 84 0 0 8 (.u 84 0))
  (.node (.sl 82 0 0 8 (.u 82 0)) (lA (nU 0) 21) (lA (nU 0) 21)) (.node (.map 60) (lA (nU 0) 21) (lA (nU 0) 21))) true false) (lD o1 17) (fD 18)))))) (.node .dead (.node .dead (.node
  .dead (.node .dead (.node .dead (.node .dead (fD 17) (lD (.cells 114 7 7 (.node .nilsl (.node (.sl 825 0 0 314 (.u 825 0)) (lA (nU 0) 21) (lA (nU 0) 21)) (.node (.map 191) (lA (nU
  0) 21) (lA (nU 0) 21))) true false) 16)) (fD 18)) (fD 19)) (fD 20)) (.node .dead (.node .dead (.node .dead (.node .dead (fD 17) (lD (.defd (some [])) 16)) (lD o7 17)) (.node .dead
  (lD (.cells 43 1 8 (.node (nU 0) (.node (nU 0) (.node (nU 0) (lA (nU 0) 20) (fA 21)) (lA (nU 0) 21)) (.node (nU 0) (lA (nU 0) 21) (lA (nU 0) 21))) false false) 17) (fD 18))) (.node
  .dead (fD 19) (lD (.map [] 0) 18)))) (.node o1 (.node .dead (.node .dead (.node .dead (.node .dead (fD 17) (lD (.cells 52 1 1 (lA (.sl 100 0 0 3072 (.k 3072)) 23) true false) 16))
  (fD 18)) (.node .dead (lD (.cells 43 1 8 (.node (nU 0) (.node (nU 0) (.node (nU 0) (lA (nU 0) 20) (fA 21)) (lA (nU 0) 21)) (.node (nU 0) (lA (nU 0) 21) (lA (nU 0) 21))) false
  false) 17) (fD 18))) (fD 20)) (fD 21)))), 826⟩,
  [.reg (opsAt Tryz.f80 [1, 0, 0, 1, 0, 0, 1, 0]) ((opsAt Tryz.f80 [1, 0, 0, 1, 0, 0, 1, 0]).toList.drop 11), .code (codeAt Tryz.f80
  [1, 0, 0, 1, 0, 0, 1, 1]), .blk 1, .code (codeAt Tryz.f80 [1, 0, 0, 1, 1]), .lp (codeAt Tryz.f80 [1, 0, 0]), .blk 0]⟩
noncomputable def o11 : Fr :=
  ⟨130, 19, [⟨(.coll 975), []⟩], .normal, none, .run, (.node (.sl 100 0 0 3072 (.k 3072)) (.node undefV (.node (nI 0) (lU (nI 3072) 20) (lU (.fn (.func 80) [] [(.ptr 973 0), (.ptr
  974 0)]) 20)) (.node undefV (lU (.bool false) 20) (fU 21))) (.node .nilsl (.node (.ptr 972 0) (lU (nI 0) 20) (fU 21)) (.node (.sl 100 0 0 3072 (.k 3072)) (lU (.sl 100 0 0 3072 (.k
  3072)) 20) (fU 21)))), [.rf 976, .blk 0, .code (codeAt Tryz.f130 [1, 1, 1, 1])]⟩
noncomputable def o13 : Fr :=
  ⟨82, 68, [], .normal, none, .run, (.node (.sl 100 0 0 3072 (.k 3072)) (.node undefV (.node (nI 2) (.node undefV (lU (nI 2) 19) (fU 20)) (lU (.tup [(nI 2), (.bool true)]) 20))
  (.node undefV (.node undefV (lU (.bool true) 19) (fU 20)) (lU (nI 3072) 20))) (.node .nil (.node (.bool true) (.node undefV (lU (.bool true) 19) (fU 20)) (.node (.sl 100 0 0 3072
  (.k 3072)) (lU (.sl 100 0 0 3072 (.k 3072)) 19) (fU 20))) (.node undefV (lU undefV 20) (lU (.tup [(nI 2), (.bool true)]) 20)))), [.reg (opsAt Tryz.f82 [1, 1, 1, 0]) ((opsAt
  Tryz.f82 [1, 1, 1, 0]).toList.drop 1), .code (codeAt Tryz.f82 [1, 1, 1, 1])]⟩
noncomputable def o8 : Fr :=
  ⟨45, 80, [], .normal, none, .run, (.node (.sl 100 0 0 3072 (.k 3072)) (fU 23) (.node .nil (.node undefV (lU (.sl 100 0 0 3072 (.k 3072)) 20) (fU 21)) (fU 22))), [.reg (opsAt
  Tryz.f45 [1, 0, 0]) ((opsAt Tryz.f45 [1, 0, 0]).toList.drop 1), .code (codeAt Tryz.f45 [1, 0, 1]), .sc (codeAt Tryz.f45 [1, 0])]⟩
noncomputable def o10 : Fr :=
  ⟨43, 6, [⟨(.fn (.func 81) [(.ptr 971 0)]), []⟩], .normal, none, .run, (.node (.fn (.func 44) [] [(.ptr 969 0), (.ptr 970 0)]) (.node undefV (lU (.fn (.func 81) [] [(.ptr 971 0)])
  21) (fU 22)) (.node (.ptr 971 0) (lU (.fn (.func 44) [] [(.ptr 969 0), (.ptr 970 0)]) 21) (fU 22))), [.reg (opsAt Tryz.f43 [1, 1, 0]) ((opsAt Tryz.f43 [1, 1, 0]).toList.drop 1),
  .code (codeAt Tryz.f43 [1, 1, 1])]⟩
noncomputable def o9 : Fr :=
  ⟨18, 8, [], .normal, none, .run, (.node (.sl 100 0 0 3072 (.k 3072)) (.node (.ptr 969 0) (lU (nI 0) 21) (fU 22)) (.node (.ptr 970 0) (lU (.fn (.func 44) [] [(.ptr 969 0), (.ptr 970
  0)]) 21) (fU 22))), [.reg (opsAt Tryz.f18 [1, 0]) ((opsAt Tryz.f18 [1, 0]).toList.drop 1), .code (codeAt Tryz.f18 [1, 1])]⟩
noncomputable def o14 : Fr :=
  ⟨5, 45, [], .normal, none, .run, (.node (.sl 100 0 0 3072 (.k 3072)) (.node (nI 1) (.node undefV (.node (nI 0) (lU (nI 0) 19) (lU (.bool false) 19)) (.node (.sl 100 0 0 3072 (.k
  3072)) (lU (.bool false) 19) (lU (.agg [(.ptr 192 0), (nI 1), (nI 1), (nI 0), .nilsl, (.bool false), .nilsl, .nil, .nil, .nilfn]) 19))) (.node (nI 0) (.node undefV (lU (.bool
  false) 19) (lU (.ptr 192 0) 19)) (.node (.ptr 192 0) (lU (.bool false) 19) (fU 20)))) (.node undefV (.node .nil (.node (.ptr 968 0) (lU (.bool false) 19) (lU (.bool false) 19))
  (.node (.tup [(.ptr 192 0), (nI 0)]) (lU (.bool false) 19) (lU (.ptr 968 0) 19))) (.node (.ptr 192 0) (.node (.tup [(.ptr 192 0), (nI 0)]) (lU (nI 1) 19) (lU (nI 1) 19)) (.node (nI
  0) (lU (nI 1) 19) (lU (.sl 100 0 0 3072 (.k 3072)) 19))))), [.reg (opsAt Tryz.f5 [1, 1, 1, 1, 0]) ((opsAt Tryz.f5 [1, 1, 1, 1, 0]).toList.drop 1), .code (codeAt Tryz.f5 [1, 1, 1,
  1, 1])]⟩
noncomputable def o15 : Ob :=
  (.cells 43 1 384 (.node (nU 5929342154728227142) (.node (nU 3072) (.node (nU 18446744073709548543) (.node (nU 0) (.node (nU 0) (.node (nU 0) (.node (nU 0) (.node (nU 0) (lA (nU 0)
  15) (lA (nU 0) 15)) (.node (nU 0) (lA (nU 0) 15) (fA 16))) (.node (nU 0) (.node (nU 0) (lA (nU 0) 15) (fA 16)) (.node (nU 0) (lA (nU 0) 15) (fA 16)))) (.node (nU 0) (.node (nU 0)
  (.node (nU 0) (lA (nU 0) 15) (fA 16)) (.node (nU 0) (lA (nU 0) 15) (fA 16))) (.node (nU 0) (.node (nU 0) (lA (nU 0) 15) (fA 16)) (.node (nU 0) (lA (nU 0) 15) (fA 16))))) (.node (nU
  0) (.node (nU 0) (.node (nU 0) (.node (nU 0) (lA (nU 0) 15) (fA 16)) (.node (nU 0) (lA (nU 0) 15) (fA 16))) (.node (nU 0) (.node (nU 0) (lA (nU 0) 15) (fA 16)) (.node (nU 0) (lA
  (nU 0) 15) (fA 16)))) (.node (nU 0) (.node (nU 0) (.node (nU 0) (lA (nU 0) 15) (fA 16)) (.node (nU 0) (lA (nU 0) 15) (fA 16))) (.node (nU 0) (.node (nU 0) (lA (nU 0) 15) (fA 16))
  (.node (nU 0) (lA (nU 0) 15) (fA 16)))))) (.node (nU 0) (.node (nU 0) (.node (nU 0) (.node (nU 0) (.node (nU 0) (lA (nU 0) 15) (fA 16)) (.node (nU 0) (lA (nU 0) 15) (fA 16)))
  (.node (nU 0) (.node (nU 0) (lA (nU 0) 15) (fA 16)) (.node (nU 0) (lA (nU 0) 15) (fA 16)))) (.node (nU 0) (.node (nU 0) (.node (nU 0) (lA (nU 0) 15) (fA 16)) (.node (nU 0) (lA (nU
  0) 15) (fA 16))) (.node (nU 0) (.node (nU 0) (lA (nU 0) 15) (fA 16)) (.node (nU 0) (lA (nU 0) 15) (fA 16))))) (.node (nU 0) (.node (nU 0) (.node (nU 0) (.node (nU 0) (lA (nU 0) 15)
  (fA 16)) (.node (nU 0) (lA (nU 0) 15) (fA 16))) (.node (nU 0) (.node (nU 0) (lA (nU 0) 15) (fA 16)) (.node (nU 0) (lA (nU 0) 15) (fA 16)))) (.node (nU 0) (.node (nU 0) (.node (nU
  0) (lA (nU 0) 15) (fA 16)) (.node (nU 0) (lA (nU 0) 15) (fA 16))) (.node (nU 0) (.node (nU 0) (lA (nU 0) 15) (fA 16)) (.node (nU 0) (lA (nU 0) 15) (fA 16))))))) (.node (nU 0)
  (.node (nU 0) (.node (nU 0) (.node (nU 0) (.node (nU 0) (.node (nU 1) (lA (nU 0) 15) (fA 16)) (.node (nU 0) (lA (nU 0) 15) (fA 16))) (.node (nU 0) (.node (nU 0) (lA (nU 0) 15) (fA
  16)) (.node (nU 0) (lA (nU 0) 15) (fA 16)))) (.node (nU 0) (.node (nU 0) (.node (nU 0) (lA (nU 0) 15) (fA 16)) (.node (nU 0) (lA (nU 0) 15) (fA 16))) (.node (nU 0) (.node (nU 0)
  (lA (nU 0) 15) (fA 16)) (.node (nU 0) (lA (nU 0) 15) (fA 16))))) (.node (nU 0) (.node (nU 0) (.node (nU 0) (.node (nU 0) (lA (nU 0) 15) (fA 16)) (.node (nU 0) (lA (nU 0) 15) (fA
  16))) (.node (nU 0) (.node (nU 0) (lA (nU 0) 15) (fA 16)) (.node (nU 0) (lA (nU 0) 15) (fA 16)))) (.node (nU 0) (.node (nU 0) (.node (nU 0) (lA (nU 0) 15) (fA 16)) (.node (nU 0)
  (lA (nU 0) 15) (fA 16))) (.node (nU 0) (.node (nU 0) (lA (nU 0) 15) (fA 16)) (.node (nU 0) (lA (nU 0) 15) (fA 16)))))) (.node (nU 0) (.node (nU 0) (.node (nU 0) (.node (nU 0)
  (.node (nU 0) (lA (nU 0) 15) (fA 16)) (.node (nU 0) (lA (nU 0) 15) (fA 16))) (.node (nU 0) (.node (nU 0) (lA (nU 0) 15) (fA 16)) (.node (nU 0) (lA (nU 0) 15) (fA 16)))) (.node (nU
  0) (.node (nU 0) (.node (nU 0) (lA (nU 0) 15) (fA 16)) (.node (nU 0) (lA (nU 0) 15) (fA 16))) (.node (nU 0) (.node (nU 0) (lA (nU 0) 15) (fA 16)) (.node (nU 0) (lA (nU 0) 15) (fA
  16))))) (.node (nU 0) (.node (nU 0) (.node (nU 0) (.node (nU 0) (lA (nU 0) 15) (fA 16)) (.node (nU 0) (lA (nU 0) 15) (fA 16))) (.node (nU 0) (.node (nU 0) (lA (nU 0) 15) (fA 16))
  (.node (nU 0) (lA (nU 0) 15) (fA 16)))) (.node (nU 0) (.node (nU 0) (.node (nU 0) (lA (nU 0) 15) (fA 16)) (.node (nU 0) (lA (nU 0) 15) (fA 16))) (.node (nU 0) (.node (nU 0) (lA (nU
  0) 15) (fA 16)) (.node (nU 0) (lA (nU 0) 15) (fA 16)))))))) (.node (nU 1088) (.node (nU 0) (.node (nU 0) (.node (nU 0) (.node (nU 0) (.node (nU 0) (.node (nU 3) (lA (nU 0) 15) (fA
  16)) (.node (nU 0) (lA (nU 0) 15) (fA 16))) (.node (nU 0) (.node (nU 0) (lA (nU 0) 15) (fA 16)) (.node (nU 0) (lA (nU 0) 15) (fA 16)))) (.node (nU 0) (.node (nU 0) (.node (nU 0)
  (lA (nU 0) 15) (fA 16)) (.node (nU 0) (lA (nU 0) 15) (fA 16))) (.node (nU 0) (.node (nU 0) (lA (nU 0) 15) (fA 16)) (.node (nU 0) (lA (nU 0) 15) (fA 16))))) (.node (nU 0) (.node (nU
  0) (.node (nU 0) (.node (nU 5495893775785918464) (lA (nU 0) 15) (fA 16)) (.node (nU 0) (lA (nU 0) 15) (fA 16))) (.node (nU 0) (.node (nU 0) (lA (nU 0) 15) (fA 16)) (.node (nU 0)
  (lA (nU 0) 15) (fA 16)))) (.node (nU 0) (.node (nU 0) (.node (nU 0) (lA (nU 0) 15) (fA 16)) (.node (nU 0) (lA (nU 0) 15) (fA 16))) (.node (nU 0) (.node (nU 0) (lA (nU 0) 15) (fA
  16)) (.node (nU 0) (lA (nU 0) 15) (fA 16)))))) (.node (nU 0) (.node (nU 0) (.node (nU 0) (.node (nU 0) (.node (nU 0) (lA (nU 0) 15) (fA 16)) (.node (nU 0) (lA (nU 0) 15) (fA 16)))
  (.node (nU 0) (.node (nU 0) (lA (nU 0) 15) (fA 16)) (.node (nU 0) (lA (nU 0) 15) (fA 16)))) (.node (nU 0) (.node (nU 0) (.node (nU 0) (lA (nU 0) 15) (fA 16)) (.node (nU 0) (lA (nU
  0) 15) (fA 16))) (.node (nU 0) (.node (nU 0) (lA (nU 0) 15) (fA 16)) (.node (nU 0) (lA (nU 0) 15) (fA 16))))) (.node (nU 0) (.node (nU 0) (.node (nU 0) (.node (nU 1088) (lA (nU 0)
  15) (fA 16)) (.node (nU 0) (lA (nU 0) 15) (fA 16))) (.node (nU 0) (.node (nU 0) (lA (nU 0) 15) (fA 16)) (.node (nU 0) (lA (nU 0) 15) (fA 16)))) (.node (nU 0) (.node (nU 0) (.node
  (nU 0) (lA (nU 0) 15) (fA 16)) (.node (nU 0) (lA (nU 0) 15) (fA 16))) (.node (nU 0) (.node (nU 0) (lA (nU 0) 15) (fA 16)) (.node (nU 0) (lA (nU 0) 15) (fA 16))))))) (.node (nU 0)
  (.node (nU 0) (.node (nU 0) (.node (nU 0) (.node (nU 0) (.node (nU 0) (lA (nU 0) 15) (fA 16)) (.node (nU 0) (lA (nU 0) 15) (fA 16))) (.node (nU 0) (.node (nU 0) (lA (nU 0) 15) (fA
  16)) (.node (nU 0) (lA (nU 0) 15) (fA 16)))) (.node (nU 0) (.node (nU 0) (.node (nU 0) (lA (nU 0) 15) (fA 16)) (.node (nU 0) (lA (nU 0) 15) (fA 16))) (.node (nU 0) (.node (nU 0)
  (lA (nU 0) 15) (fA 16)) (.node (nU 0) (lA (nU 0) 15) (fA 16))))) (.node (nU 0) (.node (nU 0) (.node (nU 0) (.node (nU 0) (lA (nU 0) 15) (fA 16)) (.node (nU 0) (lA (nU 0) 15) (fA
  16))) (.node (nU 0) (.node (nU 0) (lA (nU 0) 15) (fA 16)) (.node (nU 0) (lA (nU 0) 15) (fA 16)))) (.node (nU 0) (.node (nU 0) (.node (nU 0) (lA (nU 0) 15) (fA 16)) (.node (nU 0)
  (lA (nU 0) 15) (fA 16))) (.node (nU 0) (.node (nU 0) (lA (nU 0) 15) (fA 16)) (.node (nU 0) (lA (nU 0) 15) (fA 16)))))) (.node (nU 0) (.node (nU 0) (.node (nU 0) (.node (nU 0)
  (.node (nU 0) (lA (nU 0) 15) (fA 16)) (.node (nU 0) (lA (nU 0) 15) (fA 16))) (.node (nU 0) (.node (nU 0) (lA (nU 0) 15) (fA 16)) (.node (nU 0) (lA (nU 0) 15) (fA 16)))) (.node (nU
  0) (.node (nU 0) (.node (nU 0) (lA (nU 0) 15) (fA 16)) (.node (nU 0) (lA (nU 0) 15) (fA 16))) (.node (nU 0) (.node (nU 0) (lA (nU 0) 15) (fA 16)) (.node (nU 0) (lA (nU 0) 15) (fA
  16))))) (.node (nU 0) (.node (nU 0) (.node (nU 0) (.node (nU 0) (lA (nU 0) 15) (fA 16)) (.node (nU 0) (lA (nU 0) 15) (fA 16))) (.node (nU 0) (.node (nU 0) (lA (nU 0) 15) (fA 16))
  (.node (nU 0) (lA (nU 0) 15) (fA 16)))) (.node (nU 0) (.node (nU 0) (.node (nU 0) (lA (nU 0) 15) (fA 16)) (.node (nU 0) (lA (nU 0) 15) (fA 16))) (.node (nU 0) (.node (nU 0) (lA (nU
  0) 15) (fA 16)) (.node (nU 0) (lA (nU 0) 15) (fA 16))))))))) false false)
noncomputable def o12 : Ob :=
  (.loop .ready none 130 (.node (.sl 100 0 0 3072 (.k 3072)) (.node undefV (.node (nI 0) (lU (nI 3072) 20) (lU (.fn (.func 80) [] [(.ptr 973 0), (.ptr 974 0)]) 20)) (.node undefV (lU
  (.bool false) 20) (fU 21))) (.node .nilsl (.node (.ptr 972 0) (lU (nI 0) 20) (fU 21)) (.node (.sl 100 0 0 3072 (.k 3072)) (lU (.sl 100 0 0 3072 (.k 3072)) 20) (fU 21)))) 19 #[12]
  (codeAt Tryz.f130 [1, 1, 1, 0, 1, 0, 0]) (codeAt Tryz.f130 [1, 1, 1, 0, 1, 0, 1]) 975)
/-- where the run stands at the end of part 4 -/
noncomputable def s4 : St :=
  ⟨⟨80, 31, [], .normal, none,
  [o11,
    o13,
    o8,
    ⟨44, 103, [], .normal, none, .run, (.node (.ptr 969 0) (.node (.ptr 970 0) (fU 22) (.node undefV (fU 21) (lU (.sl 100 0 0
  3072 (.k 3072)) 20))) (fU 23)), [.reg (opsAt Tryz.f44 [0]) ((opsAt Tryz.f44 [0]).toList.drop 1), .code (codeAt Tryz.f44 [1])]⟩,
    o10,
    o9,
    o14,
    o3,
    o6]⟩,
  .run,

   (.node (.yld 976) (.node (.ptr 973 0) (.node undefV (.node (.sl 100 0 0 3072 (.k 3072)) (lU (nI 480) 19) (lU (nI 8) 19)) (.node (nI 8) (lU (.yld 976) 19) (lU (nI 488) 19))) (.node
  (nI 8) (.node (.bool true) (lU (nI 2592) 19) (lU (nI 480) 19)) (.node (nI 8) (lU (nI 480) 19) (lU (.bool true) 19)))) (.node (.ptr 974 0) (.node (nI 488) (.node (nI 3072) (lU (.sl
  100 480 0 2592 (.k 2592)) 19) (lU (nI 488) 19)) (.node (nI 488) (lU (.sl 100 0 0 3072 (.k 3072)) 19) (lU (.sl 100 480 0 8 (.k 8)) 19))) (.node (nI 480) (.node (nI 480) (lU (nI 8)
  19) (lU (nI 8) 19)) (.node (.sl 100 0 0 3072 (.k 3072)) (lU (nI 480) 19) (lU (.bool false) 19))))),
  ⟨(.node (.cells 31 10 10 (.node .nil (.node (nI 0) (.node (nI 0) (lA .nil 20)
  (fA 21)) (.node (.bool false) (lA .nilfn 20) (fA 21))) (.node (nI 0) (.node .nilsl (lA .nil 20) (fA 21)) (lA .nilsl 21))) true false) (.node .dead (.node o1 (.node (.cells 5 1 64
  (fB 24) true false) (.node .dead (.node .dead (.node .dead (fD 17) (lD (.map [] 0) 16)) (fD 18)) (.node .dead (.node .dead (fD 17) (.node .dead (fD 16) (.node .dead (fD 15) (lD
  (.defd (some [])) 14)))) (fD 18))) (.node .dead (.node .dead (.node .dead (fD 17) (.node .dead (fD 16) (.node .dead (fD 15) (lD o15 14)))) (fD 18)) (fD 19))) (.node .dead (.node
  .dead (.node .dead (fD 18) (lD (.cells 99 3 3 (.node .nilsl (lA .nilsl 22) (lA (.bool false) 22)) false false) 17)) (fD 19)) (.node .dead (.node .dead (.node .dead (fD 17) (.node
  .dead (fD 16) (.node .dead (fD 15) (lD (.cells 33 1 1 (lA (nI 0) 23) true false) 14)))) (fD 18)) (lD (.cells 5 1 64 (fB 24) true false) 18)))) (.node .dead (.node .dead (.node
  .dead (lD (.cells 5 1 64 (fB 24) true false) 18) (fD 19)) (.node .dead (.node .dead (.node .dead (fD 17) (.node .dead (fD 16) (.node .dead (fD 15) (lD (.cells 52 1 1 (lA (.sl 100 0
  0 3072 (.k 3072)) 23) true false) 14)))) (fD 18)) (fD 19))) (.node .dead (.node .dead (.node .dead (.node .dead (fD 17) (.node .dead (fD 16) (.node .dead (fD 15) (lD o15 14)))) (fD
  18)) (.node .dead (lD (.cells 31 10 10 (.node (.ptr 61 0) (.node (nI 1) (.node (nI 0) (lA .nil 20) (fA 21)) (.node (.bool false) (lA .nilfn 20) (fA 21))) (.node (nI 1) (.node
  .nilsl (lA .nil 20) (fA 21)) (lA .nilsl 21))) true false) 17) (fD 18))) (.node .dead (.node .dead (.node .dead (fD 17) (.node .dead (fD 16) (.node .dead (fD 15) (lD (.cells 52 1 1
  (lA (.sl 100 0 0 3072 (.k 3072)) 23) true false) 14)))) (fD 18)) (.node (.cells 114 7 7 (.node (.sl 84 0 0 8 (.u 84 0)) (.node (.sl 82 0 0 8 (.u 82 0)) (lA (nU 0) 21) (lA (nU 0)
  21)) (.node (.map 60) (lA (nU 0) 21) (lA (nU 0) 21))) true false) (lD o1 17) (fD 18)))))) (.node .dead (.node .dead (.node .dead (.node .dead (.node .dead (.node .dead (fD 17) (lD
  (.cells 114 7 7 (.node (.sl 967 0 0 384 (.u 967 0)) (.node (.sl 965 0 0 384 (.u 965 0)) (lA (nU 0) 21) (lA (nU 0) 21)) (.node (.map 191) (lA (nU 0) 21) (lA (nU 0) 21))) true false)
  16)) (fD 18)) (.node .dead (.node .dead (fD 17) (.node .dead (fD 16) (.node .dead (fD 15) (lD o12 14)))) (fD 18))) (.node .dead (.node .dead (.node .dead (fD 17) (.node .dead (fD
  16) (.node .dead (fD 15) (lD (.cells 31 10 10 (.node (.ptr 192 0) (.node (nI 1) (.node (nI 0) (lA .nil 20) (fA 21)) (.node (.bool false) (lA .nilfn 20) (fA 21))) (.node (nI 1)
  (.node .nilsl (lA .nil 20) (fA 21)) (lA .nilsl 21))) true false) 14)))) (fD 18)) (fD 19))) (.node .dead (.node .dead (.node .dead (fD 18) (lD o7 17)) (.node .dead (lD (.cells 43 1
  8 (.node (nU 0) (.node (nU 0) (.node (nU 0) (lA (nU 0) 20) (fA 21)) (lA (nU 0) 21)) (.node (nU 0) (lA (nU 0) 21) (lA (nU 0) 21))) false false) 17) (fD 18))) (.node .dead (.node
  .dead (.node .dead (fD 17) (.node .dead (fD 16) (.node .dead (fD 15) (lD (.cells 87 1 1 (lA (.sl 1098 0 0 61 (.u 1098 0)) 23) true false) 14)))) (fD 18)) (lD (.map [] 0) 18))))
  (.node o1 (.node .dead (.node .dead (fD 19) (.node .dead (lD (.cells 43 1 8 (.node (nU 0) (.node (nU 0) (.node (nU 0) (lA (nU 0) 20) (fA 21)) (lA (nU 0) 21)) (.node (nU 0) (lA (nU
  0) 21) (lA (nU 0) 21))) false false) 17) (fD 18))) (.node .dead (.node .dead (.node .dead (fD 17) (.node .dead (.node .dead (.node .dead (lD (.cells 43 1 61 (.node (nU
  5929342154728227142) (.node (nU 3072) (.node (nU 18446744073709548543) (.node (nU 0) (.node (nU 0) (lA (nU 0) 18) (lA (nU 0) 18)) (.node (nU 0) (lA (nU 0) 18) (lA (nU 0) 18)))
  (.node (nU 0) (.node (nU 0) (lA (nU 0) 18) (lA (nU 0) 18)) (.node (nU 0) (lA (nU 0) 18) (lA (nU 0) 18)))) (.node (nU 0) (.node (nU 0) (.node (nU 0) (lA (nU 0) 18) (lA (nU 0) 18))
  (.node (nU 0) (lA (nU 0) 18) (lA (nU 0) 18))) (.node (nU 0) (.node (nU 0) (lA (nU 0) 18) (lA (nU 0) 18)) (.node (nU 0) (lA (nU 0) 18) (fA 19))))) (.node (nU 1088) (.node (nU 0)
  (.node (nU 0) (.node (nU 0) (lA (nU 0) 18) (lA (nU 0) 18)) (.node (nU 0) (lA (nU 0) 18) (lA (nU 0) 18))) (.node (nU 0) (.node (nU 0) (lA (nU 0) 18) (lA (nU 0) 18)) (.node (nU 0)
  (lA (nU 0) 18) (lA (nU 0) 18)))) (.node (nU 0) (.node (nU 0) (.node (nU 0) (lA (nU 0) 18) (lA (nU 0) 18)) (.node (nU 0) (lA (nU 0) 18) (lA (nU 0) 18))) (.node (nU 0) (.node (nU 0)
  (lA (nU 0) 18) (lA (nU 0) 18)) (.node (nU 0) (lA (nU 0) 18) (fA 19)))))) false false) 13) (fD 14)) (fD 15)) (.node .dead (fD 15) (lD (.cells 73 6 6 (.node .nilsl (.node .nilsl (lA
  .nilsl 21) (lA (nI 0) 21)) (.node .nilsl (lA (nI 0) 21) (fA 22))) true false) 14)))) (fD 18)) (fD 19))) (.node .dead (fD 20) (.node .dead (.node .dead (.node .dead (fD 17) (.node
  .dead (fD 16) (.node .dead (fD 15) (lD (.cells 3 1 1 (lA (nI 8) 23) true false) 14)))) (fD 18)) (fD 19)))))), 1099⟩,
  [.lp (codeAt Tryz.f80 [1, 0, 0]), .blk 0]⟩
/-- where the run stands at the end of part 5 -/
noncomputable def s5 : St :=
  ⟨⟨80, 31, [], .normal, none,
  [o11,
    o13,
    o8,
    ⟨44, 103, [], .normal, none, .run, (.node (.ptr 969 0) (.node (.ptr 970 0) (fU 22) (.node undefV (fU 21) (lU (.sl 100 0 0
  3072 (.k 3072)) 20))) (fU 23)), [.reg (opsAt Tryz.f44 [0]) ((opsAt Tryz.f44 [0]).toList.drop 1), .code (codeAt Tryz.f44 [1])]⟩,
    o10,
    o9,
    o14,
    o3,
    o6]⟩,
  .run,

   (.node (.yld 976) (.node (.ptr 973 0) (.node undefV (.node (.sl 100 0 0 3072 (.k 3072)) (lU (nI 1680) 19) (lU (nI 8) 19)) (.node (nI 8) (lU (.yld 976) 19) (lU (nI 1688) 19)))
  (.node (nI 8) (.node (.bool true) (lU (nI 1392) 19) (lU (nI 1680) 19)) (.node (nI 8) (lU (nI 1680) 19) (lU (.bool true) 19)))) (.node (.ptr 974 0) (.node (nI 1688) (.node (nI 3072)
  (lU (.sl 100 1680 0 1392 (.k 1392)) 19) (lU (nI 1688) 19)) (.node (nI 1688) (lU (.sl 100 0 0 3072 (.k 3072)) 19) (lU (.sl 100 1680 0 8 (.k 8)) 19))) (.node (nI 1680) (.node (nI
  1680) (lU (nI 8) 19) (lU (nI 8) 19)) (.node (.sl 100 0 0 3072 (.k 3072)) (lU (nI 1680) 19) (lU (.bool false) 19))))),
  ⟨(.node (.cells 31 10 10 (.node .nil (.node (nI 0) (.node
  (nI 0) (lA .nil 20) (fA 21)) (.node (.bool false) (lA .nilfn 20) (fA 21))) (.node (nI 0) (.node .nilsl (lA .nil 20) (fA 21)) (lA .nilsl 21))) true false) (.node .dead (.node o1
  (.node (.cells 5 1 64 (fB 24) true false) (.node .dead (.node .dead (.node .dead (fD 17) (lD (.map [] 0) 16)) (fD 18)) (.node .dead (.node .dead (fD 17) (.node .dead (fD 16) (.node
  .dead (fD 15) (lD (.defd (some [])) 14)))) (fD 18))) (.node .dead (.node .dead (.node .dead (fD 17) (.node .dead (fD 16) (.node .dead (fD 15) (lD o15 14)))) (fD 18)) (fD 19)))
  (.node .dead (.node .dead (.node .dead (fD 18) (lD (.cells 99 3 3 (.node .nilsl (lA .nilsl 22) (lA (.bool false) 22)) false false) 17)) (fD 19)) (.node .dead (.node .dead (.node
  .dead (fD 17) (.node .dead (fD 16) (.node .dead (fD 15) (lD (.cells 33 1 1 (lA (nI 0) 23) true false) 14)))) (fD 18)) (lD (.cells 5 1 64 (fB 24) true false) 18)))) (.node .dead
  (.node .dead (.node .dead (lD (.cells 5 1 64 (fB 24) true false) 18) (fD 19)) (.node .dead (.node .dead (.node .dead (fD 17) (.node .dead (fD 16) (.node .dead (fD 15) (lD (.cells
  52 1 1 (lA (.sl 100 0 0 3072 (.k 3072)) 23) true false) 14)))) (fD 18)) (fD 19))) (.node .dead (.node .dead (.node .dead (.node .dead (fD 17) (.node .dead (fD 16) (.node .dead (fD
  15) (lD o15 14)))) (fD 18)) (.node .dead (lD (.cells 31 10 10 (.node (.ptr 61 0) (.node (nI 1) (.node (nI 0) (lA .nil 20) (fA 21)) (.node (.bool false) (lA .nilfn 20) (fA 21)))
  (.node (nI 1) (.node .nilsl (lA .nil 20) (fA 21)) (lA .nilsl 21))) true false) 17) (fD 18))) (.node .dead (.node .dead (.node .dead (fD 17) (.node .dead (fD 16) (.node .dead (fD
  15) (lD (.cells 52 1 1 (lA (.sl 100 0 0 3072 (.k 3072)) 23) true false) 14)))) (fD 18)) (.node (.cells 114 7 7 (.node (.sl 84 0 0 8 (.u 84 0)) (.node (.sl 82 0 0 8 (.u 82 0)) (lA
  (nU 0) 21) (lA (nU 0) 21)) (.node (.map 60) (lA (nU 0) 21) (lA (nU 0) 21))) true false) (lD o1 17) (fD 18)))))) (.node .dead (.node .dead (.node .dead (.node .dead (.node .dead
  (.node .dead (fD 17) (lD (.cells 114 7 7 (.node (.sl 967 0 0 384 (.u 967 0)) (.node (.sl 965 0 0 384 (.u 965 0)) (lA (nU 0) 21) (lA (nU 0) 21)) (.node (.map 191) (lA (nU 0) 21) (lA
  (nU 0) 21))) true false) 16)) (fD 18)) (.node .dead (.node .dead (fD 17) (.node .dead (fD 16) (.node .dead (fD 15) (lD o12 14)))) (fD 18))) (.node .dead (.node .dead (.node .dead
  (fD 17) (.node .dead (fD 16) (.node .dead (fD 15) (lD (.cells 31 10 10 (.node (.ptr 192 0) (.node (nI 1) (.node (nI 0) (lA .nil 20) (fA 21)) (.node (.bool false) (lA .nilfn 20) (fA
  21))) (.node (nI 1) (.node .nilsl (lA .nil 20) (fA 21)) (lA .nilsl 21))) true false) 14)))) (fD 18)) (fD 19))) (.node .dead (.node .dead (.node .dead (fD 18) (lD o7 17)) (.node
  .dead (lD (.cells 43 1 8 (.node (nU 0) (.node (nU 0) (.node (nU 0) (lA (nU 0) 20) (fA 21)) (lA (nU 0) 21)) (.node (nU 0) (lA (nU 0) 21) (lA (nU 0) 21))) false false) 17) (fD 18)))
  (.node .dead (.node .dead (.node .dead (fD 17) (.node .dead (fD 16) (.node .dead (fD 15) (lD (.cells 87 1 1 (lA (.sl 1398 0 0 211 (.u 1398 0)) 23) true false) 14)))) (fD 18)) (lD
  (.map [] 0) 18)))) (.node o1 (.node .dead (.node .dead (fD 19) (.node .dead (lD (.cells 43 1 8 (.node (nU 0) (.node (nU 0) (.node (nU 0) (lA (nU 0) 20) (fA 21)) (lA (nU 0) 21))
  (.node (nU 0) (lA (nU 0) 21) (lA (nU 0) 21))) false false) 17) (fD 18))) (.node .dead (.node .dead (.node .dead (fD 17) (.node .dead (fD 16) (.node .dead (fD 15) (lD (.cells 73 6 6
  (.node .nilsl (.node .nilsl (lA .nilsl 21) (lA (nI 0) 21)) (.node .nilsl (lA (nI 0) 21) (fA 22))) true false) 14)))) (fD 18)) (fD 19))) (.node .dead (.node .dead (fD 19) (.node
  .dead (fD 18) (.node .dead (fD 17) (.node .dead (.node .dead (fD 15) (.node .dead (lD (.cells 43 1 211 (.node (nU 5929342154728227142) (.node (nU 3072) (.node (nU
  18446744073709548543) (.node (nU 0) (.node (nU 0) (.node (nU 0) (.node (nU 0) (lA (nU 0) 16) (lA (nU 0) 16)) (.node (nU 0) (lA (nU 0) 16) (fA 17))) (.node (nU 0) (.node (nU 0) (lA
  (nU 0) 16) (lA (nU 0) 16)) (.node (nU 0) (lA (nU 0) 16) (fA 17)))) (.node (nU 0) (.node (nU 0) (.node (nU 0) (lA (nU 0) 16) (lA (nU 0) 16)) (.node (nU 0) (lA (nU 0) 16) (fA 17)))
  (.node (nU 0) (.node (nU 0) (lA (nU 0) 16) (fA 17)) (.node (nU 0) (lA (nU 0) 16) (fA 17))))) (.node (nU 0) (.node (nU 0) (.node (nU 0) (.node (nU 0) (lA (nU 0) 16) (lA (nU 0) 16))
  (.node (nU 0) (lA (nU 0) 16) (fA 17))) (.node (nU 0) (.node (nU 0) (lA (nU 0) 16) (fA 17)) (.node (nU 0) (lA (nU 0) 16) (fA 17)))) (.node (nU 0) (.node (nU 0) (.node (nU 0) (lA (nU
  0) 16) (lA (nU 0) 16)) (.node (nU 0) (lA (nU 0) 16) (fA 17))) (.node (nU 0) (.node (nU 0) (lA (nU 0) 16) (fA 17)) (.node (nU 0) (lA (nU 0) 16) (fA 17)))))) (.node (nU 0) (.node (nU
  0) (.node (nU 0) (.node (nU 0) (.node (nU 0) (lA (nU 1) 16) (lA (nU 0) 16)) (.node (nU 0) (lA (nU 0) 16) (fA 17))) (.node (nU 0) (.node (nU 0) (lA (nU 0) 16) (lA (nU 0) 16)) (.node
  (nU 0) (lA (nU 0) 16) (fA 17)))) (.node (nU 0) (.node (nU 0) (.node (nU 0) (lA (nU 0) 16) (lA (nU 0) 16)) (.node (nU 0) (lA (nU 0) 16) (fA 17))) (.node (nU 0) (.node (nU 0) (lA (nU
  0) 16) (fA 17)) (.node (nU 0) (lA (nU 0) 16) (fA 17))))) (.node (nU 0) (.node (nU 0) (.node (nU 0) (.node (nU 0) (lA (nU 0) 16) (lA (nU 0) 16)) (.node (nU 0) (lA (nU 0) 16) (fA
  17))) (.node (nU 0) (.node (nU 0) (lA (nU 0) 16) (fA 17)) (.node (nU 0) (lA (nU 0) 16) (fA 17)))) (.node (nU 0) (.node (nU 0) (.node (nU 0) (lA (nU 0) 16) (lA (nU 0) 16)) (.node
  (nU 0) (lA (nU 0) 16) (fA 17))) (.node (nU 0) (.node (nU 0) (lA (nU 0) 16) (fA 17)) (.node (nU 0) (lA (nU 0) 16) (fA 17))))))) (.node (nU 1088) (.node (nU 0) (.node (nU 0) (.node
  (nU 0) (.node (nU 0) (.node (nU 0) (lA (nU 3) 16) (lA (nU 0) 16)) (.node (nU 0) (lA (nU 0) 16) (fA 17))) (.node (nU 0) (.node (nU 0) (lA (nU 0) 16) (lA (nU 0) 16)) (.node (nU 0)
  (lA (nU 0) 16) (fA 17)))) (.node (nU 0) (.node (nU 0) (.node (nU 0) (lA (nU 5495893775785918464) 16) (lA (nU 0) 16)) (.node (nU 0) (lA (nU 0) 16) (fA 17))) (.node (nU 0) (.node (nU
  0) (lA (nU 0) 16) (fA 17)) (.node (nU 0) (lA (nU 0) 16) (fA 17))))) (.node (nU 0) (.node (nU 0) (.node (nU 0) (.node (nU 0) (lA (nU 0) 16) (lA (nU 0) 16)) (.node (nU 0) (lA (nU 0)
  16) (fA 17))) (.node (nU 0) (.node (nU 0) (lA (nU 0) 16) (fA 17)) (.node (nU 0) (lA (nU 0) 16) (fA 17)))) (.node (nU 0) (.node (nU 0) (.node (nU 0) (lA (nU 1088) 16) (lA (nU 0)
  16)) (.node (nU 0) (lA (nU 0) 16) (fA 17))) (.node (nU 0) (.node (nU 0) (lA (nU 0) 16) (fA 17)) (.node (nU 0) (lA (nU 0) 16) (fA 17)))))) (.node (nU 0) (.node (nU 0) (.node (nU 0)
  (.node (nU 0) (.node (nU 0) (lA (nU 0) 16) (lA (nU 0) 16)) (.node (nU 0) (lA (nU 0) 16) (fA 17))) (.node (nU 0) (.node (nU 0) (lA (nU 0) 16) (lA (nU 0) 16)) (.node (nU 0) (lA (nU
  0) 16) (fA 17)))) (.node (nU 0) (.node (nU 0) (.node (nU 0) (lA (nU 0) 16) (lA (nU 0) 16)) (.node (nU 0) (lA (nU 0) 16) (fA 17))) (.node (nU 0) (.node (nU 0) (lA (nU 0) 16) (fA
  17)) (.node (nU 0) (lA (nU 0) 16) (fA 17))))) (.node (nU 0) (.node (nU 0) (.node (nU 0) (.node (nU 0) (lA (nU 0) 16) (lA (nU 0) 16)) (.node (nU 0) (lA (nU 0) 16) (fA 17))) (.node
  (nU 0) (.node (nU 0) (lA (nU 0) 16) (fA 17)) (.node (nU 0) (lA (nU 0) 16) (fA 17)))) (.node (nU 0) (.node (nU 0) (.node (nU 0) (lA (nU 0) 16) (lA (nU 0) 16)) (.node (nU 0) (lA (nU
  0) 16) (fA 17))) (.node (nU 0) (.node (nU 0) (lA (nU 0) 16) (fA 17)) (.node (nU 0) (lA (nU 0) 16) (fA 17)))))))) false false) 13) (fD 14))) (fD 16))))) (.node .dead (.node .dead
  (.node .dead (fD 17) (.node .dead (fD 16) (.node .dead (fD 15) (lD (.cells 3 1 1 (lA (nI 8) 23) true false) 14)))) (fD 18)) (fD 19)))))), 1399⟩,
  [.lp (codeAt Tryz.f80 [1, 0, 0]),
  .blk 0]⟩
/-- where the run stands at the end of part 6 -/
noncomputable def s6 : St :=
  ⟨⟨51, 11, [], .normal, none,
  [⟨82, 68, [], .normal, none, .run, (.node (.sl 100 0 0 3072 (.k 3072)) (.node undefV (.node (nI 2) (.node (.ptr 1747 0) (.node (nI 2) (lU (.map 1746)
  18) (lU (nU 3) 18)) (.node (nI 0) (lU (.ptr 1747 0) 18) (fU 19))) (.node (.tup [(nI 2), (.bool true)]) (.node (.tup [(.sl 1744 0 0 384 (.u 1744 0)), (nI 0)]) (lU (nI 2) 18) (lU (nU
  3) 18)) (.node (.sl 1744 0 0 384 (.u 1744 0)) (lU (.ptr 1747 0) 18) (fU 19)))) (.node (.sl 1744 0 0 384 (.u 1744 0)) (.node (nU 3) (.node (.bool true) (lU (.ptr 1747 0) 18) (lU
  (.bool true) 18)) (.node (.bool true) (lU (nU 1024) 18) (fU 19))) (.node (nI 3072) (lU (.tup [(.sl 1744 0 0 384 (.u 1744 0)), (nI 0)]) 19) (.node (nI 3) (lU (nU 1032) 18) (fU
  19))))) (.node .nil (.node (.bool true) (.node (nI 1) (.node (.bool true) (lU (.agg [(.sl 1744 0 0 384 (.u 1744 0)), (.sl 1745 0 0 3 (.k 3)), (nU 0), (.map 1746), .nilsl, .nilsl])
  18) (lU (.bool true) 18)) (.node (nI 0) (lU (nI 1) 18) (fU 19))) (.node (.sl 100 0 0 3072 (.k 3072)) (.node (.sl 100 0 0 3072 (.k 3072)) (lU (.bool true) 18) (lU (nI 3) 18)) (.node
  (nI 2) (lU (nI 1) 18) (fU 19)))) (.node (nI 0) (.node (nU 1) (.node undefV (lU (nI 1) 18) (lU (nU 1) 18)) (.node undefV (lU (nU 3) 18) (fU 19))) (.node (.tup [(nI 2), (.bool
  true)]) (lU (.sl 1744 0 0 384 (.u 1744 0)) 19) (.node (.sl 1745 0 0 3 (.k 3)) (lU (nU 1) 18) (fU 19)))))), [.reg (opsAt Tryz.f82 [1, 1, 1, 1, 1, 1, 0, 1, 0, 0, 1, 0, 0, 1, 0])
  ((opsAt Tryz.f82 [1, 1, 1, 1, 1, 1, 0, 1, 0, 0, 1, 0, 0, 1, 0]).toList.drop 6), .code (codeAt Tryz.f82 [1, 1, 1, 1, 1, 1, 0, 1, 0, 0, 1, 0, 0, 1, 1]), .blk 1, .code (codeAt
  Tryz.f82 [1, 1, 1, 1, 1, 1, 0, 1, 0, 0, 1, 1]), .lp (codeAt Tryz.f82 [1, 1, 1, 1, 1, 1, 0, 1, 0, 0]), .blk 0, .code (codeAt Tryz.f82 [1, 1, 1, 1, 1, 1, 1])]⟩,
    o8,
    ⟨44, 103,
  [], .normal, none, .run, (.node (.ptr 969 0) (.node (.ptr 970 0) (fU 22) (.node undefV (fU 21) (lU (.sl 100 0 0 3072 (.k 3072)) 20))) (fU 23)), [.reg (opsAt Tryz.f44 [0]) ((opsAt
  Tryz.f44 [0]).toList.drop 1), .code (codeAt Tryz.f44 [1])]⟩,
    o10,
    o9,
    o14,
    o3,
    o6]⟩,
  .run,
  (.node (nI 3) (fU 23) (lU (nI 0) 22)),
  ⟨(.node (.cells 31 10 10
  (.node .nil (.node (nI 0) (.node (nI 0) (lA .nil 20) (fA 21)) (.node (.bool false) (lA .nilfn 20) (fA 21))) (.node (nI 0) (.node .nilsl (lA .nil 20) (fA 21)) (lA .nilsl 21))) true
  false) (.node .dead (.node o1 (.node (.cells 5 1 64 (fB 24) true false) (.node .dead (.node .dead (.node .dead (fD 17) (lD (.map [] 0) 16)) (fD 18)) (fD 19)) (.node .dead (.node
  .dead (.node .dead (fD 17) (.node .dead (fD 16) (.node .dead (fD 15) (lD o15 14)))) (fD 18)) (fD 19))) (.node .dead (.node .dead (.node .dead (fD 18) (lD (.cells 99 3 3 (.node
  .nilsl (lA .nilsl 22) (lA (.bool false) 22)) false false) 17)) (.node .dead (.node .dead (fD 17) (.node .dead (fD 16) (.node .dead (.node .dead (fD 14) (lD (.cells 126 6 6 (.node
  (.sl 1744 0 0 384 (.u 1744 0)) (.node (.sl 1745 0 0 3 (.k 3)) (lA (.map 1746) 21) (lA .nilsl 21)) (.node (nU 0) (lA .nilsl 21) (fA 22))) true false) 13)) (fD 15)))) (fD 18)))
  (.node .dead (.node .dead (.node .dead (fD 17) (.node .dead (fD 16) (.node .dead (fD 15) (lD (.cells 33 1 1 (lA (nI 0) 23) true false) 14)))) (fD 18)) (lD (.cells 5 1 64 (fB 24)
  true false) 18)))) (.node .dead (.node .dead (.node .dead (lD (.cells 5 1 64 (fB 24) true false) 18) (.node .dead (.node .dead (fD 17) (.node .dead (fD 16) (.node .dead (.node
  .dead (fD 14) (lD (.cells 135 2 6 (.node (nI 0) (.node (nU 0) (lA (nU 0) 21) (lA (nU 0) 21)) (.node (nI 0) (lA (nI 0) 21) (fA 22))) true false) 13)) (fD 15)))) (fD 18))) (.node
  .dead (.node .dead (.node .dead (fD 17) (.node .dead (fD 16) (.node .dead (fD 15) (lD (.cells 52 1 1 (lA (.sl 100 0 0 3072 (.k 3072)) 23) true false) 14)))) (fD 18)) (fD 19)))
  (.node .dead (.node .dead (.node .dead (.node .dead (fD 17) (.node .dead (fD 16) (.node .dead (fD 15) (lD o15 14)))) (fD 18)) (.node .dead (lD (.cells 31 10 10 (.node (.ptr 61 0)
  (.node (nI 1) (.node (nI 0) (lA .nil 20) (fA 21)) (.node (.bool false) (lA .nilfn 20) (fA 21))) (.node (nI 1) (.node .nilsl (lA .nil 20) (fA 21)) (lA .nilsl 21))) true false) 17)
  (fD 18))) (.node .dead (fD 19) (.node (.cells 114 7 7 (.node (.sl 84 0 0 8 (.u 84 0)) (.node (.sl 82 0 0 8 (.u 82 0)) (lA (nU 0) 21) (lA (nU 0) 21)) (.node (.map 60) (lA (nU 0) 21)
  (lA (nU 0) 21))) true false) (lD o1 17) (fD 18)))))) (.node .dead (.node .dead (.node .dead (.node .dead (.node .dead (.node .dead (fD 17) (lD (.cells 114 7 7 (.node (.sl 967 0 0
  384 (.u 967 0)) (.node (.sl 965 0 0 384 (.u 965 0)) (lA (nU 0) 21) (lA (nU 0) 21)) (.node (.map 191) (lA (nU 0) 21) (lA (nU 0) 21))) true false) 16)) (fD 18)) (.node .dead (.node
  .dead (fD 17) (.node .dead (fD 16) (.node .dead (.node .dead (fD 14) (lD o15 13)) (fD 15)))) (fD 18))) (.node .dead (.node .dead (.node .dead (fD 17) (.node .dead (fD 16) (.node
  .dead (fD 15) (lD (.cells 31 10 10 (.node (.ptr 192 0) (.node (nI 1) (.node (nI 0) (lA .nil 20) (fA 21)) (.node (.bool false) (lA .nilfn 20) (fA 21))) (.node (nI 1) (.node .nilsl
  (lA .nil 20) (fA 21)) (lA .nilsl 21))) true false) 14)))) (fD 18)) (fD 19))) (.node .dead (.node .dead (.node .dead (fD 18) (lD o7 17)) (.node .dead (lD (.cells 43 1 8 (.node (nU
  0) (.node (nU 0) (.node (nU 0) (lA (nU 0) 20) (fA 21)) (lA (nU 0) 21)) (.node (nU 0) (lA (nU 0) 21) (lA (nU 0) 21))) false false) 17) (fD 18))) (.node .dead (fD 19) (lD (.map [] 0)
  18)))) (.node o1 (.node .dead (.node .dead (fD 19) (.node .dead (.node (.cells 43 1 8 (.node (nU 0) (.node (nU 0) (.node (nU 0) (lA (nU 0) 20) (fA 21)) (lA (nU 0) 21)) (.node (nU
  0) (lA (nU 0) 21) (lA (nU 0) 21))) false false) (fD 17) (.node .dead (fD 16) (.node .dead (.node .dead (fD 14) (lD (.map [] 0) 13)) (fD 15)))) (fD 18))) (.node .dead (.node .dead
  (.node .dead (fD 17) (.node .dead (fD 16) (.node .dead (fD 15) (lD (.cells 73 6 6 (.node .nilsl (.node .nilsl (lA .nilsl 21) (lA (nI 0) 21)) (.node .nilsl (lA (nI 0) 21) (fA 22)))
  true false) 14)))) (fD 18)) (fD 19))) (fD 21)))), 1748⟩,
  [.code (codeAt Tryz.f51 [1])]⟩
noncomputable def o16 : Fr :=
  ⟨15, 83, [], .normal, none, .run, (.node (.bool false) (.node (.sl 100 0 0 3072 (.k 3072)) (.node (.ptr 968 0) (.node (.tup [(.sl 100 0 0 3072 (.k 3072)), (nI 0)]) (lU (nI 0) 19)
  (lU (.ptr 968 0) 19)) (.node (.tup [(.ptr 968 0), (nI 0)]) (lU (nI 0) 19) (lU (.agg [(nI 1), (nI 0), (nI 0), (nI 0), (nU 0), (nU 0), (nI 0), (.str (bs [])), (nU 0), (nI 0), .nilsl,
  (nI 0)]) 19))) (.node undefV (.node (.sl 100 0 0 3072 (.k 3072)) (lU (.bool false) 19) (lU (.bool false) 19)) (.node (.tup [(.ptr 968 0), (nI 0)]) (lU (.bool false) 19) (fU 20))))
  (.node (nI 0) (.node (nI 0) (.node (.tup [(.sl 100 0 0 3072 (.k 3072)), (nI 0)]) (lU (nI 0) 19) (lU (.bool false) 19)) (.node (.sl 100 0 0 3072 (.k 3072)) (lU (.bool false) 19) (lU
  (.sl 1873 0 0 1 (.k 1)) 19))) (.node undefV (.node (nI 0) (lU (.bool false) 19) (lU (.ptr 968 0) 19)) (.node (.ptr 968 0) (lU (.bool false) 19) (fU 20))))), [.reg (opsAt Tryz.f15
  [1, 1, 1, 1, 0]) ((opsAt Tryz.f15 [1, 1, 1, 1, 0]).toList.drop 3), .code (codeAt Tryz.f15 [1, 1, 1, 1, 1])]⟩
/-- where the run stands at the end of part 7 -/
noncomputable def s7 : St :=
  ⟨⟨164, 14, [], .normal, none,
  [⟨71, 28, [⟨(.coll 1885), []⟩], .normal, none, .run, (.node (.ptr 192 0) (.node undefV (.node (.ptr 1883 0) (lU (.ptr 1882 0) 20) (fU 21)) (.node
  (.ptr 192 0) (lU (nI 3072) 20) (fU 21))) (.node .nil (.node undefV (lU (.ptr 192 0) 20) (fU 21)) (.node (.agg [(.ptr 192 0), .nilsl, .nilsl, .nilfn, (.bool false), (nI 0), .nilsl,
  .nilsl, .nilsl, .nilsl, (nI 0), (nI 0)]) (lU (.fn (.func 164) [] [(.ptr 1884 0)]) 20) (fU 21)))), [.rf 1886, .blk 0, .code (codeAt Tryz.f71 [1, 1, 1])]⟩,
    ⟨37, 25, [], .normal,
  none, .run, (.node (.ptr 968 0) (.node (.agg [(nI 5), (nI 0), (nI 0), (nU 0), (nU 0), (nI 0), (.str (bs [])), (nU 0), (nI 0), .nilsl]) (.node (.ptr 1880 0) (.node undefV (lU (.ptr
  968 0) 19) (fU 20)) (lU (nI 1) 20)) (.node undefV (lU (.ptr 968 0) 20) (lU (.ptr 968 0) 20))) (.node (.ptr 1879 0) (.node (.ptr 1881 0) (.node (.ptr 968 0) (lU (.ptr 192 0) 19) (fU
  20)) (lU (.bool false) 20)) (.node (nI 0) (lU (.ptr 968 2) 20) (lU (.ptr 968 0) 20)))), [.reg (opsAt Tryz.f37 [1, 1, 0]) ((opsAt Tryz.f37 [1, 1, 0]).toList.drop 4), .code (codeAt
  Tryz.f37 [1, 1, 1])]⟩,
    ⟨4, 58, [], .normal, none, .run, (.node (.ptr 968 0) (.node (.agg [(nI 5), (nI 0), (nI 0), (nU 0), (nU 0), (nI 0), (.str (bs [])), (nU 0), (nI 0),
  .nilsl]) (.node (.ptr 1876 0) (.node (.bool true) (.node (.ptr 968 0) (lU (.ptr 968 0) 18) (fU 19)) (.node (nI 5) (lU (.agg [(nI 5), (nI 0), (nI 0), (nU 0), (nU 0), (nI 0), (.str
  (bs [])), (nU 0), (nI 0), .nilsl]) 18) (fU 19))) (.node (.bool false) (.node undefV (lU (nI 5) 18) (fU 19)) (lU (.bool true) 19))) (.node (nI 0) (.node undefV (.node (.bool false)
  (lU (nI 0) 18) (fU 19)) (lU (.fn (.func 37) [] []) 19)) (.node (.ptr 968 0) (.node (.map 1878) (lU (.fn (.func 37) [] []) 18) (fU 19)) (fU 20)))) (.node undefV (.node (.ptr 1877 0)
  (.node (.ptr 1879 0) (.node (.ptr 192 0) (lU (.ptr 968 3) 18) (fU 19)) (lU (.tup [(.fn (.func 37) [] []), (.bool true)]) 19)) (.node (.bool false) (.node (.tup [(.fn (.func 37) []
  []), (.bool true)]) (lU (.agg [(nI 0), (nI 5), (nI 0), (nI 0), (nI 0), (nI 0), (.bool false), (nI 0), (.str (bs [])), .nilsl, (.bool false), (nI 0), (nI 0)]) 18) (fU 19)) (lU
  (.bool false) 19))) (.node (.fn (.func 37) [] []) (.node (.ptr 968 0) (.node (.bool false) (lU (.ptr 1876 0) 18) (fU 19)) (lU (.bool true) 19)) (.node (.ptr 968 0) (.node (.ptr
  1876 0) (lU (.ptr 968 0) 18) (fU 19)) (lU (.ptr 968 0) 19))))), [.reg (opsAt Tryz.f4 [1, 1, 1, 1, 1, 0, 0]) ((opsAt Tryz.f4 [1, 1, 1, 1, 1, 0, 0]).toList.drop 3), .code (codeAt
  Tryz.f4 [1, 1, 1, 1, 1, 0, 1]), .code (codeAt Tryz.f4 [1, 1, 1, 1, 1, 1])]⟩,
    ⟨32, 104, [], .normal, none, .run, (.node (.ptr 968 0) (.node (.sl 1873 0 0 1 (.k 1)) (.node undefV
  (.node undefV (.node (nI 1) (lU (.bool true) 18) (fU 19)) (lU (.ptr 1874 0) 19)) (.node undefV (.node (.sl 1873 0 0 1 (.k 1)) (lU (.ptr 1874 0) 18) (fU 19)) (fU 20))) (.node (.ptr
  1874 0) (.node undefV (fU 20) (.node (.bool false) (lU (.agg [(nI 5), (nI 0), (nI 0), (nU 0), (nU 0), (nI 0), (.str (bs [])), (nU 0), (nI 0), .nilsl]) 18) (fU 19))) (.node (nI 0)
  (.node (.ptr 1873 0) (lU (.bool false) 18) (fU 19)) (fU 20)))) (.node undefV (.node (nI 0) (.node undefV (.node (.bool true) (lU (.bool true) 18) (fU 19)) (.node (nI 1) (lU (.ptr
  968 0) 18) (fU 19))) (.node undefV (.node (nI 0) (lU (nI 1) 18) (fU 19)) (fU 20))) (.node (.ptr 1875 0) (.node undefV (.node undefV (lU (.agg [(nI 5), (nI 0), (nI 0), (nU 0), (nU
  0), (nI 0), (.str (bs [])), (nU 0), (nI 0), .nilsl]) 18) (fU 19)) (lU (.bool false) 19)) (.node (.sl 1873 0 0 1 (.k 1)) (lU (.agg [(nI 1), (nI 0), (nI 0), (nI 0), (nU 0), (nU 0),
  (nI 0), (.str (bs [])), (nU 0), (nI 0), .nilsl, (nI 0)]) 19) (fU 20))))), [.reg (opsAt Tryz.f32 [1, 0, 0, 1, 0, 0, 1, 1, 0, 1, 1, 1, 0, 1, 1, 0]) ((opsAt Tryz.f32 [1, 0, 0, 1, 0,
  0, 1, 1, 0, 1, 1, 1, 0, 1, 1, 0]).toList.drop 2), .code (codeAt Tryz.f32 [1, 0, 0, 1, 0, 0, 1, 1, 0, 1, 1, 1, 0, 1, 1, 1]), .blk 2, .blk 1, .code (codeAt Tryz.f32 [1, 0, 0, 1, 1]),
  .lp (codeAt Tryz.f32 [1, 0, 0]), .blk 0]⟩,
    o16,
    o6]⟩,
  .run,
  (.node (.yld 1886) (.node (.ptr 1884 0) (.node (nI 680) (lU (nI 672) 20) (lU (nU 672) 20)) (.node (nI 3072)
  (lU (.yld 1886) 20) (lU (.bool false) 20))) (.node undefV (.node (nI 672) (lU (nI 680) 20) (lU (.bool true) 20)) (.node (.bool true) (lU (nI 672) 20) (fU 21)))),
  ⟨(.node (.cells
  31 10 10 (.node .nil (.node (nI 0) (.node (nI 0) (lA .nil 20) (fA 21)) (.node (.bool false) (lA .nilfn 20) (fA 21))) (.node (nI 0) (.node .nilsl (lA .nil 20) (fA 21)) (lA .nilsl
  21))) true false) (.node .dead (.node o1 (.node (.cells 5 1 64 (fB 24) true false) (.node .dead (.node .dead (.node .dead (fD 17) (lD (.map [] 0) 16)) (fD 18)) (fD 19)) (.node
  .dead (.node .dead (.node .dead (fD 17) (.node .dead (fD 16) (.node .dead (fD 15) (lD o15 14)))) (fD 18)) (.node .dead (.node .dead (fD 17) (.node .dead (.node .dead (fD 15) (.node
  .dead (fD 14) (lD (.cells 39 13 13 (.node (nI 0) (.node (nI 5) (.node (nI 0) (lA (nI 0) 20) (lA (nI 0) 20)) (.node (nI 0) (lA .nilsl 20) (fA 21))) (.node (nI 0) (.node (nI 0) (lA
  (.str (bs [])) 20) (lA (nI 0) 20)) (.node (.bool false) (lA (.bool false) 20) (fA 21)))) true false) 13))) (fD 16))) (fD 18)))) (.node .dead (.node .dead (.node .dead (fD 18) (lD
  (.cells 99 3 3 (.node .nilsl (lA .nilsl 22) (lA (.bool false) 22)) false false) 17)) (.node .dead (.node .dead (fD 17) (.node .dead (.node .dead (fD 15) (.node .dead (fD 14) (lD
  (.cells 49 10 10 (.node (nI 5) (.node (nI 0) (.node (nU 0) (lA (nU 0) 20) (fA 21)) (.node (nI 0) (lA .nilsl 20) (fA 21))) (.node (nI 0) (.node (nU 0) (lA (nI 0) 20) (fA 21)) (lA
  (.str (bs [])) 21))) true false) 13))) (fD 16))) (fD 18))) (.node .dead (fD 19) (.node (.cells 5 1 64 (fB 24) true false) (.node .dead (fD 17) (.node .dead (.node .dead (fD 15)
  (.node .dead (fD 14) (lD (.cells 167 1 1 (lA (.ptr 1882 0) 23) true false) 13))) (fD 16))) (fD 18))))) (.node .dead (.node .dead (.node .dead (lD (.cells 5 1 64 (fB 24) true false)
  18) (.node .dead (.node .dead (fD 17) (.node .dead (.node .dead (fD 15) (.node .dead (fD 14) (lD (.cells 106 12 12 (.node (nI 1) (.node (nI 0) (.node (nI 0) (lA (.str (bs [])) 20)
  (lA (nI 0) 20)) (.node (nU 0) (lA (nI 0) 20) (fA 21))) (.node (nI 0) (.node (nU 0) (lA (nU 0) 20) (fA 21)) (.node (nI 0) (lA .nilsl 20) (fA 21)))) true false) 13))) (fD 16))) (fD
  18))) (.node .dead (fD 19) (.node .dead (.node .dead (fD 17) (.node .dead (.node .dead (fD 15) (.node .dead (fD 14) (lD (.cells 49 10 10 (.node (nI 5) (.node (nI 0) (.node (nU 0)
  (lA (nU 0) 20) (fA 21)) (.node (nI 0) (lA .nilsl 20) (fA 21))) (.node (nI 0) (.node (nU 0) (lA (nI 0) 20) (fA 21)) (lA (.str (bs [])) 21))) true false) 13))) (fD 16))) (fD 18))))
  (.node .dead (.node .dead (.node .dead (.node .dead (fD 17) (.node .dead (fD 16) (.node .dead (fD 15) (lD o15 14)))) (fD 18)) (.node .dead (.node (.cells 31 10 10 (.node (.ptr 61
  0) (.node (nI 1) (.node (nI 0) (lA .nil 20) (fA 21)) (.node (.bool false) (lA .nilfn 20) (fA 21))) (.node (nI 1) (.node .nilsl (lA .nil 20) (fA 21)) (lA .nilsl 21))) true false)
  (fD 17) (.node .dead (.node .dead (fD 15) (.node .dead (fD 14) (lD o1 13))) (fD 16))) (fD 18))) (.node .dead (fD 19) (.node (.cells 114 7 7 (.node (.sl 84 0 0 8 (.u 84 0)) (.node
  (.sl 82 0 0 8 (.u 82 0)) (lA (nU 0) 21) (lA (nU 0) 21)) (.node (.map 60) (lA (nU 0) 21) (lA (nU 0) 21))) true false) (.node o1 (fD 17) (.node .dead (.node .dead (fD 15) (.node
  .dead (fD 14) (lD (.defd (some [])) 13))) (fD 16))) (fD 18)))))) (.node .dead (.node .dead (.node .dead (.node .dead (.node .dead (.node .dead (fD 17) (lD (.cells 114 7 7 (.node
  (.sl 967 0 0 384 (.u 967 0)) (.node (.sl 965 0 0 384 (.u 965 0)) (lA (nU 0) 21) (lA (nU 0) 21)) (.node (.map 191) (lA (nU 0) 21) (lA (nU 0) 21))) true false) 16)) (fD 18)) (fD 19))
  (.node .dead (.node .dead (.node .dead (.node .dead (.node .dead (.node .dead (.node .dead (lD (.cells 46 1 85 (.node (nU 0) (.node (nU 8) (.node (nU 24) (.node (nU 56) (.node (nU
  120) (.node (nU 248) (lA (nU 504) 17) (fA 18)) (.node (nU 376) (lA (nU 632) 17) (fA 18))) (.node (nU 184) (.node (nU 312) (lA (nU 568) 17) (fA 18)) (lA (nU 440) 18))) (.node (nU
  88) (.node (nU 152) (.node (nU 280) (lA (nU 536) 17) (fA 18)) (.node (nU 408) (lA (nU 664) 17) (fA 18))) (.node (nU 216) (.node (nU 344) (lA (nU 600) 17) (fA 18)) (lA (nU 472)
  18)))) (.node (nU 40) (.node (nU 72) (.node (nU 136) (.node (nU 264) (lA (nU 520) 17) (fA 18)) (.node (nU 392) (lA (nU 648) 17) (fA 18))) (.node (nU 200) (.node (nU 328) (lA (nU
  584) 17) (fA 18)) (lA (nU 456) 18))) (.node (nU 104) (.node (nU 168) (.node (nU 296) (lA (nU 552) 17) (fA 18)) (lA (nU 424) 18)) (.node (nU 232) (.node (nU 360) (lA (nU 616) 17)
  (fA 18)) (lA (nU 488) 18))))) (.node (nU 16) (.node (nU 32) (.node (nU 64) (.node (nU 128) (.node (nU 256) (lA (nU 512) 17) (fA 18)) (.node (nU 384) (lA (nU 640) 17) (fA 18)))
  (.node (nU 192) (.node (nU 320) (lA (nU 576) 17) (fA 18)) (lA (nU 448) 18))) (.node (nU 96) (.node (nU 160) (.node (nU 288) (lA (nU 544) 17) (fA 18)) (.node (nU 416) (lA (nU 672)
  17) (fA 18))) (.node (nU 224) (.node (nU 352) (lA (nU 608) 17) (fA 18)) (lA (nU 480) 18)))) (.node (nU 48) (.node (nU 80) (.node (nU 144) (.node (nU 272) (lA (nU 528) 17) (fA 18))
  (.node (nU 400) (lA (nU 656) 17) (fA 18))) (.node (nU 208) (.node (nU 336) (lA (nU 592) 17) (fA 18)) (lA (nU 464) 18))) (.node (nU 112) (.node (nU 176) (.node (nU 304) (lA (nU 560)
  17) (fA 18)) (lA (nU 432) 18)) (.node (nU 240) (.node (nU 368) (lA (nU 624) 17) (fA 18)) (lA (nU 496) 18)))))) false false) 12) (fD 13)) (fD 14)) (fD 15)) (fD 16)) (.node .dead (fD
  16) (.node .dead (fD 15) (lD (.cells 31 10 10 (.node (.ptr 192 0) (.node (nI 1) (.node (nI 0) (lA .nil 20) (fA 21)) (.node (.bool true) (lA .nilfn 20) (fA 21))) (.node (nI 1)
  (.node .nilsl (lA .nil 20) (fA 21)) (lA .nilsl 21))) true false) 14)))) (fD 18)) (.node .dead (.node .dead (fD 17) (.node .dead (.node .dead (fD 15) (.node .dead (fD 14) (lD
  (.cells 22 1 1 (lA (.ptr 968 0) 23) true false) 13))) (fD 16))) (fD 18)))) (.node .dead (.node .dead (.node .dead (fD 18) (lD o7 17)) (.node .dead (.node (.cells 43 1 8 (.node (nU
  0) (.node (nU 0) (.node (nU 0) (lA (nU 0) 20) (fA 21)) (lA (nU 0) 21)) (.node (nU 0) (lA (nU 0) 21) (lA (nU 0) 21))) false false) (fD 17) (.node .dead (.node .dead (fD 15) (.node
  .dead (fD 14) (lD (.cells 49 10 10 (.node (nI 5) (.node (nI 0) (.node (nU 0) (lA (nU 0) 20) (fA 21)) (.node (nI 0) (lA .nilsl 20) (fA 21))) (.node (nI 0) (.node (nU 0) (lA (nI 0)
  20) (fA 21)) (lA (.str (bs [])) 21))) true false) 13))) (fD 16))) (fD 18))) (.node .dead (fD 19) (.node (.map [] 0) (.node .dead (fD 17) (.node .dead (.node .dead (fD 15) (.node
  .dead (fD 14) (lD (.cells 3 1 1 (lA (nI 3072) 23) true false) 13))) (fD 16))) (fD 18))))) (.node o1 (.node .dead (.node .dead (fD 19) (.node .dead (.node (.cells 43 1 8 (.node (nU
  0) (.node (nU 0) (.node (nU 0) (lA (nU 0) 20) (fA 21)) (lA (nU 0) 21)) (.node (nU 0) (lA (nU 0) 21) (lA (nU 0) 21))) false false) (fD 17) (.node .dead (.node .dead (fD 15) (.node
  .dead (fD 14) (lD (.cells 106 12 12 (.node (nI 1) (.node (nI 0) (.node (nI 0) (lA (.str (bs [])) 20) (lA (nI 0) 20)) (.node (nU 0) (lA (nI 0) 20) (fA 21))) (.node (nI 0) (.node (nU
  0) (lA (nU 0) 20) (fA 21)) (.node (nI 0) (lA .nilsl 20) (fA 21)))) true false) 13))) (fD 16))) (fD 18))) (.node .dead (fD 19) (.node .dead (.node .dead (fD 17) (.node .dead (.node
  .dead (fD 15) (.node .dead (fD 14) (lD (.cells 235 12 12 (.node (.ptr 192 0) (.node (.sl 2056 0 0 85 (.u 2056 0)) (.node .nilfn (lA .nilsl 20) (lA (nI 0) 20)) (.node (nI 0) (lA
  .nilsl 20) (fA 21))) (.node .nilsl (.node (.bool false) (lA .nilsl 20) (fA 21)) (.node .nilsl (lA (nI 0) 20) (fA 21)))) true false) 13))) (fD 16))) (fD 18)))) (.node .dead (.node
  .dead (fD 19) (.node .dead (.node .dead (fD 17) (.node .dead (.node .dead (fD 15) (.node .dead (fD 14) (lD (.map [⟨(nI 1), (.fn (.func 33) [] []), 0⟩, ⟨(nI 2), (.fn (.func 34) []
  []), 1⟩, ⟨(nI 3), (.fn (.func 35) [] []), 2⟩, ⟨(nI 4), (.fn (.func 36) [] []), 3⟩, ⟨(nI 5), (.fn (.func 37) [] []), 4⟩, ⟨(nI 6), (.fn (.func 38) [] []), 5⟩, ⟨(nI 7), (.fn (.func
  39) [] []), 6⟩] 7) 13))) (fD 16))) (fD 18))) (.node .dead (fD 19) (.node .dead (.node .dead (fD 17) (.node .dead (.node .dead (fD 15) (.node .dead (fD 14) (lD (.loop .ready none 71
  (.node (.ptr 192 0) (.node undefV (.node (.ptr 1883 0) (lU (.ptr 1882 0) 20) (fU 21)) (.node (.ptr 192 0) (lU (nI 3072) 20) (fU 21))) (.node .nil (.node undefV (lU (.ptr 192 0) 20)
  (fU 21)) (.node (.agg [(.ptr 192 0), .nilsl, .nilsl, .nilfn, (.bool false), (nI 0), .nilsl, .nilsl, .nilsl, .nilsl, (nI 0), (nI 0)]) (lU (.fn (.func 164) [] [(.ptr 1884 0)]) 20)
  (fU 21)))) 28 #[11] (codeAt Tryz.f71 [1, 1, 0, 1, 0, 0]) (codeAt Tryz.f71 [1, 1, 0, 1, 0, 1]) 1885) 13))) (fD 16))) (fD 18))))))), 2057⟩,
  [.lp (codeAt Tryz.f164 [1, 0, 0]), .blk
  0]⟩
noncomputable def o18 : Fr :=
  ⟨32, 104, [], .normal, none, .run, (.node (.ptr 968 0) (.node (.sl 1873 0 0 1 (.k 1)) (.node undefV (.node (.ptr 2656 0) (.node (nI 1) (lU (.bool true) 18) (lU (.ptr 968 0) 18))
  (.node (.ptr 1874 0) (lU (.tup [(.agg [(nI 0), (nI 5), (nI 2), (nI 0), (nI 0), (nI 0), (.bool false), (nI 0), (.str (bs [])), .nilsl, (.bool false), (nI 0), (nI 0)]), (nI 0)]) 18)
  (fU 19))) (.node undefV (.node (.sl 1873 0 0 1 (.k 1)) (lU (.ptr 1874 0) 18) (fU 19)) (.node undefV (lU (.agg [(nI 0), (nI 5), (nI 2), (nI 0), (nI 0), (nI 0), (.bool false), (nI
  0), (.str (bs [])), .nilsl, (.bool false), (nI 0), (nI 0)]) 18) (fU 19)))) (.node (.ptr 1874 0) (.node undefV (.node undefV (fU 19) (lU (nI 3136) 18)) (.node (.bool false) (lU
  (.agg [(nI 5), (nI 0), (nI 0), (nU 0), (nU 0), (nI 0), (.str (bs [])), (nU 0), (nI 0), .nilsl]) 18) (fU 19))) (.node (nI 0) (.node (.ptr 1873 0) (lU (.bool false) 18) (fU 19))
  (.node undefV (lU (nI 0) 18) (fU 19))))) (.node undefV (.node (nI 0) (.node (nI 0) (.node (.bool true) (lU (.bool true) 18) (lU (.ptr 968 0) 18)) (.node (nI 1) (lU (.ptr 968 0) 18)
  (fU 19))) (.node undefV (.node (nI 0) (lU (nI 1) 18) (fU 19)) (.node undefV (lU (nI 0) 18) (fU 19)))) (.node (.ptr 1875 0) (.node undefV (.node undefV (lU (.agg [(nI 5), (nI 0),
  (nI 0), (nU 0), (nU 0), (nI 0), (.str (bs [])), (nU 0), (nI 0), .nilsl]) 18) (fU 19)) (.node (.bool false) (lU (.tup [(.agg [(nI 0), (nI 5), (nI 2), (nI 0), (nI 0), (nI 0), (.bool
  false), (nI 0), (.str (bs [])), .nilsl, (.bool false), (nI 0), (nI 0)]), (nI 0)]) 18) (fU 19))) (.node (.sl 1873 0 0 1 (.k 1)) (lU (.agg [(nI 1), (nI 0), (nI 0), (nI 0), (nU 0),
  (nU 0), (nI 0), (.str (bs [])), (nU 0), (nI 0), .nilsl, (nI 0)]) 19) (.node undefV (lU (.bool true) 18) (fU 19)))))), [.reg (opsAt Tryz.f32 [1, 0, 0, 1, 0, 0, 1, 1, 0, 1, 1, 1, 0,
  1, 1, 1, 1, 0]) ((opsAt Tryz.f32 [1, 0, 0, 1, 0, 0, 1, 1, 0, 1, 1, 1, 0, 1, 1, 1, 1, 0]).toList.drop 3), .blk 2, .blk 1, .code (codeAt Tryz.f32 [1, 0, 0, 1, 1]), .lp (codeAt
  Tryz.f32 [1, 0, 0]), .blk 0]⟩
noncomputable def o17 : Ob :=
  (.cells 39 13 13 (.node (nI 0) (.node (nI 5) (.node (nI 0) (lA (nI 0) 20) (lA (nI 0) 20)) (.node (nI 0) (lA .nilsl 20) (fA 21))) (.node (nI 2) (.node (nI 0) (lA (.str (bs [])) 20)
  (lA (nI 0) 20)) (.node (.bool false) (lA (.bool false) 20) (fA 21)))) true false)
noncomputable def o19 : Ob :=
  (.cells 46 1 384 (.node (nU 0) (.node (nU 8) (.node (nU 24) (.node (nU 56) (.node (nU 120) (.node (nU 248) (.node (nU 504) (.node (nU 1016) (lA (nU 2040) 15) (lA (nU 3064) 15))
  (.node (nU 1528) (lA (nU 2552) 15) (fA 16))) (.node (nU 760) (.node (nU 1272) (lA (nU 2296) 15) (fA 16)) (.node (nU 1784) (lA (nU 2808) 15) (fA 16)))) (.node (nU 376) (.node (nU
  632) (.node (nU 1144) (lA (nU 2168) 15) (fA 16)) (.node (nU 1656) (lA (nU 2680) 15) (fA 16))) (.node (nU 888) (.node (nU 1400) (lA (nU 2424) 15) (fA 16)) (.node (nU 1912) (lA (nU
  2936) 15) (fA 16))))) (.node (nU 184) (.node (nU 312) (.node (nU 568) (.node (nU 1080) (lA (nU 2104) 15) (fA 16)) (.node (nU 1592) (lA (nU 2616) 15) (fA 16))) (.node (nU 824)
  (.node (nU 1336) (lA (nU 2360) 15) (fA 16)) (.node (nU 1848) (lA (nU 2872) 15) (fA 16)))) (.node (nU 440) (.node (nU 696) (.node (nU 1208) (lA (nU 2232) 15) (fA 16)) (.node (nU
  1720) (lA (nU 2744) 15) (fA 16))) (.node (nU 952) (.node (nU 1464) (lA (nU 2488) 15) (fA 16)) (.node (nU 1976) (lA (nU 3000) 15) (fA 16)))))) (.node (nU 88) (.node (nU 152) (.node
  (nU 280) (.node (nU 536) (.node (nU 1048) (lA (nU 2072) 15) (fA 16)) (.node (nU 1560) (lA (nU 2584) 15) (fA 16))) (.node (nU 792) (.node (nU 1304) (lA (nU 2328) 15) (fA 16)) (.node
  (nU 1816) (lA (nU 2840) 15) (fA 16)))) (.node (nU 408) (.node (nU 664) (.node (nU 1176) (lA (nU 2200) 15) (fA 16)) (.node (nU 1688) (lA (nU 2712) 15) (fA 16))) (.node (nU 920)
  (.node (nU 1432) (lA (nU 2456) 15) (fA 16)) (.node (nU 1944) (lA (nU 2968) 15) (fA 16))))) (.node (nU 216) (.node (nU 344) (.node (nU 600) (.node (nU 1112) (lA (nU 2136) 15) (fA
  16)) (.node (nU 1624) (lA (nU 2648) 15) (fA 16))) (.node (nU 856) (.node (nU 1368) (lA (nU 2392) 15) (fA 16)) (.node (nU 1880) (lA (nU 2904) 15) (fA 16)))) (.node (nU 472) (.node
  (nU 728) (.node (nU 1240) (lA (nU 2264) 15) (fA 16)) (.node (nU 1752) (lA (nU 2776) 15) (fA 16))) (.node (nU 984) (.node (nU 1496) (lA (nU 2520) 15) (fA 16)) (.node (nU 2008) (lA
  (nU 3032) 15) (fA 16))))))) (.node (nU 40) (.node (nU 72) (.node (nU 136) (.node (nU 264) (.node (nU 520) (.node (nU 1032) (lA (nU 2056) 15) (fA 16)) (.node (nU 1544) (lA (nU 2568)
  15) (fA 16))) (.node (nU 776) (.node (nU 1288) (lA (nU 2312) 15) (fA 16)) (.node (nU 1800) (lA (nU 2824) 15) (fA 16)))) (.node (nU 392) (.node (nU 648) (.node (nU 1160) (lA (nU
  2184) 15) (fA 16)) (.node (nU 1672) (lA (nU 2696) 15) (fA 16))) (.node (nU 904) (.node (nU 1416) (lA (nU 2440) 15) (fA 16)) (.node (nU 1928) (lA (nU 2952) 15) (fA 16))))) (.node
  (nU 200) (.node (nU 328) (.node (nU 584) (.node (nU 1096) (lA (nU 2120) 15) (fA 16)) (.node (nU 1608) (lA (nU 2632) 15) (fA 16))) (.node (nU 840) (.node (nU 1352) (lA (nU 2376) 15)
  (fA 16)) (.node (nU 1864) (lA (nU 2888) 15) (fA 16)))) (.node (nU 456) (.node (nU 712) (.node (nU 1224) (lA (nU 2248) 15) (fA 16)) (.node (nU 1736) (lA (nU 2760) 15) (fA 16)))
  (.node (nU 968) (.node (nU 1480) (lA (nU 2504) 15) (fA 16)) (.node (nU 1992) (lA (nU 3016) 15) (fA 16)))))) (.node (nU 104) (.node (nU 168) (.node (nU 296) (.node (nU 552) (.node
  (nU 1064) (lA (nU 2088) 15) (fA 16)) (.node (nU 1576) (lA (nU 2600) 15) (fA 16))) (.node (nU 808) (.node (nU 1320) (lA (nU 2344) 15) (fA 16)) (.node (nU 1832) (lA (nU 2856) 15) (fA
  16)))) (.node (nU 424) (.node (nU 680) (.node (nU 1192) (lA (nU 2216) 15) (fA 16)) (.node (nU 1704) (lA (nU 2728) 15) (fA 16))) (.node (nU 936) (.node (nU 1448) (lA (nU 2472) 15)
  (fA 16)) (.node (nU 1960) (lA (nU 2984) 15) (fA 16))))) (.node (nU 232) (.node (nU 360) (.node (nU 616) (.node (nU 1128) (lA (nU 2152) 15) (fA 16)) (.node (nU 1640) (lA (nU 2664)
  15) (fA 16))) (.node (nU 872) (.node (nU 1384) (lA (nU 2408) 15) (fA 16)) (.node (nU 1896) (lA (nU 2920) 15) (fA 16)))) (.node (nU 488) (.node (nU 744) (.node (nU 1256) (lA (nU
  2280) 15) (fA 16)) (.node (nU 1768) (lA (nU 2792) 15) (fA 16))) (.node (nU 1000) (.node (nU 1512) (lA (nU 2536) 15) (fA 16)) (.node (nU 2024) (lA (nU 3048) 15) (fA 16))))))))
  (.node (nU 16) (.node (nU 32) (.node (nU 64) (.node (nU 128) (.node (nU 256) (.node (nU 512) (.node (nU 1024) (lA (nU 2048) 15) (fA 16)) (.node (nU 1536) (lA (nU 2560) 15) (fA
  16))) (.node (nU 768) (.node (nU 1280) (lA (nU 2304) 15) (fA 16)) (.node (nU 1792) (lA (nU 2816) 15) (fA 16)))) (.node (nU 384) (.node (nU 640) (.node (nU 1152) (lA (nU 2176) 15)
  (fA 16)) (.node (nU 1664) (lA (nU 2688) 15) (fA 16))) (.node (nU 896) (.node (nU 1408) (lA (nU 2432) 15) (fA 16)) (.node (nU 1920) (lA (nU 2944) 15) (fA 16))))) (.node (nU 192)
  (.node (nU 320) (.node (nU 576) (.node (nU 1088) (lA (nU 2112) 15) (fA 16)) (.node (nU 1600) (lA (nU 2624) 15) (fA 16))) (.node (nU 832) (.node (nU 1344) (lA (nU 2368) 15) (fA 16))
  (.node (nU 1856) (lA (nU 2880) 15) (fA 16)))) (.node (nU 448) (.node (nU 704) (.node (nU 1216) (lA (nU 2240) 15) (fA 16)) (.node (nU 1728) (lA (nU 2752) 15) (fA 16))) (.node (nU
  960) (.node (nU 1472) (lA (nU 2496) 15) (fA 16)) (.node (nU 1984) (lA (nU 3008) 15) (fA 16)))))) (.node (nU 96) (.node (nU 160) (.node (nU 288) (.node (nU 544) (.node (nU 1056) (lA
  (nU 2080) 15) (fA 16)) (.node (nU 1568) (lA (nU 2592) 15) (fA 16))) (.node (nU 800) (.node (nU 1312) (lA (nU 2336) 15) (fA 16)) (.node (nU 1824) (lA (nU 2848) 15) (fA 16)))) (.node
  (nU 416) (.node (nU 672) (.node (nU 1184) (lA (nU 2208) 15) (fA 16)) (.node (nU 1696) (lA (nU 2720) 15) (fA 16))) (.node (nU 928) (.node (nU 1440) (lA (nU 2464) 15) (fA 16)) (.node
  (nU 1952) (lA (nU 2976) 15) (fA 16))))) (.node (nU 224) (.node (nU 352) (.node (nU 608) (.node (nU 1120) (lA (nU 2144) 15) (fA 16)) (.node (nU 1632) (lA (nU 2656) 15) (fA 16)))
  (.node (nU 864) (.node (nU 1376) (lA (nU 2400) 15) (fA 16)) (.node (nU 1888) (lA (nU 2912) 15) (fA 16)))) (.node (nU 480) (.node (nU 736) (.node (nU 1248) (lA (nU 2272) 15) (fA
  16)) (.node (nU 1760) (lA (nU 2784) 15) (fA 16))) (.node (nU 992) (.node (nU 1504) (lA (nU 2528) 15) (fA 16)) (.node (nU 2016) (lA (nU 3040) 15) (fA 16))))))) (.node (nU 48) (.node
  (nU 80) (.node (nU 144) (.node (nU 272) (.node (nU 528) (.node (nU 1040) (lA (nU 2064) 15) (fA 16)) (.node (nU 1552) (lA (nU 2576) 15) (fA 16))) (.node (nU 784) (.node (nU 1296)
  (lA (nU 2320) 15) (fA 16)) (.node (nU 1808) (lA (nU 2832) 15) (fA 16)))) (.node (nU 400) (.node (nU 656) (.node (nU 1168) (lA (nU 2192) 15) (fA 16)) (.node (nU 1680) (lA (nU 2704)
  15) (fA 16))) (.node (nU 912) (.node (nU 1424) (lA (nU 2448) 15) (fA 16)) (.node (nU 1936) (lA (nU 2960) 15) (fA 16))))) (.node (nU 208) (.node (nU 336) (.node (nU 592) (.node (nU
  1104) (lA (nU 2128) 15) (fA 16)) (.node (nU 1616) (lA (nU 2640) 15) (fA 16))) (.node (nU 848) (.node (nU 1360) (lA (nU 2384) 15) (fA 16)) (.node (nU 1872) (lA (nU 2896) 15) (fA
  16)))) (.node (nU 464) (.node (nU 720) (.node (nU 1232) (lA (nU 2256) 15) (fA 16)) (.node (nU 1744) (lA (nU 2768) 15) (fA 16))) (.node (nU 976) (.node (nU 1488) (lA (nU 2512) 15)
  (fA 16)) (.node (nU 2000) (lA (nU 3024) 15) (fA 16)))))) (.node (nU 112) (.node (nU 176) (.node (nU 304) (.node (nU 560) (.node (nU 1072) (lA (nU 2096) 15) (fA 16)) (.node (nU
  1584) (lA (nU 2608) 15) (fA 16))) (.node (nU 816) (.node (nU 1328) (lA (nU 2352) 15) (fA 16)) (.node (nU 1840) (lA (nU 2864) 15) (fA 16)))) (.node (nU 432) (.node (nU 688) (.node
  (nU 1200) (lA (nU 2224) 15) (fA 16)) (.node (nU 1712) (lA (nU 2736) 15) (fA 16))) (.node (nU 944) (.node (nU 1456) (lA (nU 2480) 15) (fA 16)) (.node (nU 1968) (lA (nU 2992) 15) (fA
  16))))) (.node (nU 240) (.node (nU 368) (.node (nU 624) (.node (nU 1136) (lA (nU 2160) 15) (fA 16)) (.node (nU 1648) (lA (nU 2672) 15) (fA 16))) (.node (nU 880) (.node (nU 1392)
  (lA (nU 2416) 15) (fA 16)) (.node (nU 1904) (lA (nU 2928) 15) (fA 16)))) (.node (nU 496) (.node (nU 752) (.node (nU 1264) (lA (nU 2288) 15) (fA 16)) (.node (nU 1776) (lA (nU 2800)
  15) (fA 16))) (.node (nU 1008) (.node (nU 1520) (lA (nU 2544) 15) (fA 16)) (.node (nU 2032) (lA (nU 3056) 15) (fA 16))))))))) false false)
/-- where the run stands at the end of part 8 -/
noncomputable def s8 : St :=
  ⟨⟨58, 27, [], .normal, none,
  [o18,
    o16,
    o6]⟩,
  .run,
  (.node (.ptr 968 0) (.node (nI 3136) (.node undefV (.node (.ptr 2977 0) (lU (.ptr 968 0) 19) (lU (.ptr 2977 10)
  19)) (.node (.bool true) (lU (nI 0) 19) (fU 20))) (.node (.bool false) (.node (nI 40) (lU (.tup [(.agg [(nI 40), (nI 7), (nI 2), (nI 0), (nI 0), (nI 0), (.bool false), (nI 0),
  (.str (bs [])), .nilsl, (.bool false), (nI 0), (nI 0)]), (nI 0)]) 19) (fU 20)) (.node (nI 40) (lU (.bool false) 19) (fU 20)))) (.node undefV (.node (.ptr 2657 0) (.node (nI 0) (lU
  (.agg [(nI 7), (nI 0), (nI 0), (nU 0), (nU 0), (nI 0), (.str (bs [])), (nU 0), (nI 0), .nilsl]) 19) (lU (.bool false) 19)) (.node (nI 39) (lU (nI 0) 19) (fU 20))) (.node (nI 40)
  (.node (nI 3136) (lU (.agg [(nI 40), (nI 7), (nI 2), (nI 0), (nI 0), (nI 0), (.bool false), (nI 0), (.str (bs [])), .nilsl, (.bool false), (nI 0), (nI 0)]) 19) (fU 20)) (lU (.tup
  [(.agg [(nI 40), (nI 7), (nI 2), (nI 0), (nI 0), (nI 0), (.bool false), (nI 0), (.str (bs [])), .nilsl, (.bool false), (nI 0), (nI 0)]), (nI 0)]) 20)))),
  ⟨(.node (.cells 31 10 10
  (.node .nil (.node (nI 0) (.node (nI 0) (lA .nil 20) (fA 21)) (.node (.bool false) (lA .nilfn 20) (fA 21))) (.node (nI 0) (.node .nilsl (lA .nil 20) (fA 21)) (lA .nilsl 21))) true
  false) (.node .dead (.node o1 (.node (.cells 5 1 64 (fB 24) true false) (.node .dead (.node .dead (.node .dead (fD 17) (lD (.map [] 0) 16)) (.node .dead (fD 17) (.node .dead (.node
  .dead (.node .dead (fD 14) (.node .dead (lD (.cells 167 1 1 (lA (.ptr 1882 0) 23) true false) 12) (fD 13))) (fD 15)) (fD 16)))) (fD 19)) (.node .dead (.node .dead (.node .dead (fD
  17) (.node .dead (fD 16) (.node .dead (fD 15) (lD o15 14)))) (fD 18)) (fD 19))) (.node .dead (.node .dead (.node .dead (fD 18) (lD (.cells 99 3 3 (.node .nilsl (lA .nilsl 22) (lA
  (.bool false) 22)) false false) 17)) (.node .dead (.node .dead (fD 17) (.node .dead (.node .dead (fD 15) (.node .dead (fD 14) (lD (.cells 49 10 10 (.node (nI 5) (.node (nI 0)
  (.node (nU 0) (lA (nU 0) 20) (fA 21)) (.node (nI 0) (lA .nilsl 20) (fA 21))) (.node (nI 0) (.node (nU 0) (lA (nI 0) 20) (fA 21)) (lA (.str (bs [])) 21))) true false) 13))) (fD
  16))) (fD 18))) (.node .dead (fD 19) (lD (.cells 5 1 64 (fB 24) true false) 18)))) (.node .dead (.node .dead (.node .dead (.node (.cells 5 1 64 (fB 24) true false) (fD 18) (.node
  .dead (.node .dead (fD 16) (.node .dead (fD 15) (.node .dead (fD 14) (.node .dead (lD (.cells 39 13 13 (.node (nI 40) (.node (nI 7) (.node (nI 0) (lA (nI 0) 20) (lA (nI 0) 20))
  (.node (nI 0) (lA .nilsl 20) (fA 21))) (.node (nI 2) (.node (nI 0) (lA (.str (bs [])) 20) (lA (nI 0) 20)) (.node (.bool false) (lA (.bool false) 20) (fA 21)))) true false) 12) (fD
  13))))) (.node .dead (.node .dead (.node .dead (fD 14) (.node .dead (lD o1 12) (fD 13))) (fD 15)) (fD 16)))) (.node .dead (.node .dead (fD 17) (.node .dead (.node .dead (fD 15)
  (.node .dead (fD 14) (lD (.cells 106 12 12 (.node (nI 1) (.node (nI 0) (.node (nI 0) (lA (.str (bs [])) 20) (lA (nI 0) 20)) (.node (nU 0) (lA (nI 0) 20) (fA 21))) (.node (nI 0)
  (.node (nU 0) (lA (nU 0) 20) (fA 21)) (.node (nI 0) (lA .nilsl 20) (fA 21)))) true false) 13))) (fD 16))) (fD 18))) (fD 20)) (.node .dead (.node .dead (.node .dead (.node .dead (fD
  17) (.node .dead (fD 16) (.node .dead (fD 15) (lD o15 14)))) (fD 18)) (.node .dead (lD (.cells 31 10 10 (.node (.ptr 61 0) (.node (nI 1) (.node (nI 0) (lA .nil 20) (fA 21)) (.node
  (.bool false) (lA .nilfn 20) (fA 21))) (.node (nI 1) (.node .nilsl (lA .nil 20) (fA 21)) (lA .nilsl 21))) true false) 17) (fD 18))) (.node .dead (fD 19) (.node (.cells 114 7 7
  (.node (.sl 84 0 0 8 (.u 84 0)) (.node (.sl 82 0 0 8 (.u 82 0)) (lA (nU 0) 21) (lA (nU 0) 21)) (.node (.map 60) (lA (nU 0) 21) (lA (nU 0) 21))) true false) (lD o1 17) (fD 18))))))
  (.node .dead (.node .dead (.node .dead (.node .dead (.node .dead (.node .dead (fD 17) (lD (.cells 114 7 7 (.node (.sl 967 0 0 384 (.u 967 0)) (.node (.sl 965 0 0 384 (.u 965 0))
  (lA (nU 40) 21) (lA (nU 0) 21)) (.node (.map 191) (lA (nU 0) 21) (lA (nU 0) 21))) true false) 16)) (.node .dead (.node .dead (fD 16) (.node .dead (fD 15) (.node .dead (fD 14)
  (.node .dead (lD (.cells 43 1 40 (.node (nU 5929342154728227142) (.node (nU 3072) (.node (nU 18446744073709548543) (.node (nU 0) (.node (nU 0) (lA (nU 0) 18) (fA 19)) (.node (nU 0)
  (lA (nU 0) 18) (fA 19))) (.node (nU 0) (.node (nU 0) (lA (nU 0) 18) (fA 19)) (lA (nU 0) 19))) (.node (nU 0) (.node (nU 0) (.node (nU 0) (lA (nU 0) 18) (fA 19)) (lA (nU 0) 19))
  (.node (nU 0) (.node (nU 0) (lA (nU 0) 18) (fA 19)) (lA (nU 0) 19)))) (.node (nU 1088) (.node (nU 0) (.node (nU 0) (.node (nU 0) (lA (nU 0) 18) (fA 19)) (lA (nU 0) 19)) (.node (nU
  0) (.node (nU 0) (lA (nU 0) 18) (fA 19)) (lA (nU 0) 19))) (.node (nU 0) (.node (nU 0) (.node (nU 0) (lA (nU 0) 18) (fA 19)) (lA (nU 0) 19)) (.node (nU 0) (.node (nU 0) (lA (nU 0)
  18) (fA 19)) (lA (nU 0) 19))))) false false) 12) (fD 13))))) (.node .dead (.node .dead (.node .dead (fD 14) (.node .dead (lD o17 12) (fD 13))) (fD 15)) (fD 16)))) (fD 19)) (.node
  .dead (.node .dead (.node .dead (fD 17) (.node .dead (fD 16) (.node .dead (fD 15) (lD (.cells 31 10 10 (.node (.ptr 192 0) (.node (nI 1) (.node (nI 41) (lA .nil 20) (fA 21)) (.node
  (.bool true) (lA (.fn (.func 72) [] [(.ptr 2655 0), (.ptr 1880 0)]) 20) (fA 21))) (.node (nI 2) (.node .nilsl (lA .nil 20) (fA 21)) (lA .nilsl 21))) true false) 14)))) (fD 18))
  (.node .dead (.node .dead (fD 17) (.node .dead (.node .dead (fD 15) (.node .dead (fD 14) (lD (.cells 22 1 1 (lA (.ptr 968 0) 23) true false) 13))) (fD 16))) (fD 18)))) (.node .dead
  (.node .dead (.node .dead (fD 18) (lD o7 17)) (.node .dead (lD (.cells 43 1 8 (.node (nU 0) (.node (nU 0) (.node (nU 0) (lA (nU 0) 20) (fA 21)) (lA (nU 0) 21)) (.node (nU 0) (lA
  (nU 0) 21) (lA (nU 0) 21))) false false) 17) (fD 18))) (.node .dead (fD 19) (lD (.map [] 0) 18)))) (.node o1 (.node .dead (.node .dead (fD 19) (.node .dead (.node (.cells 43 1 8
  (.node (nU 0) (.node (nU 0) (.node (nU 0) (lA (nU 0) 20) (fA 21)) (lA (nU 0) 21)) (.node (nU 0) (lA (nU 0) 21) (lA (nU 0) 21))) false false) (fD 17) (.node .dead (.node .dead (fD
  15) (.node .dead (fD 14) (lD (.cells 106 12 12 (.node (nI 1) (.node (nI 0) (.node (nI 0) (lA (.str (bs [])) 20) (lA (nI 0) 20)) (.node (nU 0) (lA (nI 0) 20) (fA 21))) (.node (nI 0)
  (.node (nU 0) (lA (nU 0) 20) (fA 21)) (.node (nI 0) (lA .nilsl 20) (fA 21)))) true false) 13))) (fD 16))) (fD 18))) (.node .dead (fD 19) (.node .dead (.node .dead (fD 17) (.node
  .dead (.node .dead (fD 15) (.node .dead (fD 14) (lD (.cells 235 12 12 (.node (.ptr 192 0) (.node (.sl 2654 40 0 344 (.u 2654 40)) (.node (.fn (.func 118) [(.ptr 1882 0)] []) (lA
  .nilsl 20) (lA (nI 0) 20)) (.node (nI 0) (lA .nilsl 20) (fA 21))) (.node (.sl 2976 0 0 40 (.u 2976 0)) (.node (.bool false) (lA .nilsl 20) (fA 21)) (.node .nilsl (lA (nI 0) 20) (fA
  21)))) true false) 13))) (fD 16))) (fD 18)))) (.node .dead (fD 20) (.node .dead (fD 19) (.node .dead (.node .dead (fD 17) (.node .dead (.node .dead (.node .dead (fD 14) (.node
  .dead (lD o19 12) (fD 13))) (fD 15)) (fD 16))) (fD 18))))))), 2978⟩,
  [.code (codeAt Tryz.f58 [1, 0, 1, 0, 0, 0, 1]), .code (codeAt Tryz.f58 [1, 0, 1, 0, 0, 1]), .lp (codeAt
  Tryz.f58 [1, 0, 1, 0, 0]), .blk 0, .code (codeAt Tryz.f58 [1, 1])]⟩
/-- where the run stands at the end of part 9 -/
noncomputable def s9 : St :=
  ⟨⟨58, 27, [], .normal, none,
  [o18,
    o16,
    o6]⟩,
  .run,
  (.node (.ptr 968 0) (.node (nI 3136) (.node undefV (.node (.ptr 3609 0) (lU (.ptr 968 0) 19) (lU (.ptr 3609 10)
  19)) (.node (.bool true) (lU (nI 0) 19) (fU 20))) (.node (.bool false) (.node (nI 118) (lU (.tup [(.agg [(nI 119), (nI 7), (nI 2), (nI 0), (nI 0), (nI 0), (.bool false), (nI 0),
  (.str (bs [])), .nilsl, (.bool false), (nI 0), (nI 0)]), (nI 0)]) 19) (fU 20)) (.node (nI 119) (lU (.bool false) 19) (fU 20)))) (.node undefV (.node (.ptr 2657 0) (.node (nI 0) (lU
  (.agg [(nI 7), (nI 0), (nI 0), (nU 0), (nU 0), (nI 0), (.str (bs [])), (nU 0), (nI 0), .nilsl]) 19) (lU (.bool false) 19)) (.node (nI 118) (lU (nI 0) 19) (fU 20))) (.node (nI 119)
  (.node (nI 3136) (lU (.agg [(nI 119), (nI 7), (nI 2), (nI 0), (nI 0), (nI 0), (.bool false), (nI 0), (.str (bs [])), .nilsl, (.bool false), (nI 0), (nI 0)]) 19) (fU 20)) (lU (.tup
  [(.agg [(nI 119), (nI 7), (nI 2), (nI 0), (nI 0), (nI 0), (.bool false), (nI 0), (.str (bs [])), .nilsl, (.bool false), (nI 0), (nI 0)]), (nI 0)]) 20)))),
  ⟨(.node (.cells 31 10
  10 (.node .nil (.node (nI 0) (.node (nI 0) (lA .nil 20) (fA 21)) (.node (.bool false) (lA .nilfn 20) (fA 21))) (.node (nI 0) (.node .nilsl (lA .nil 20) (fA 21)) (lA .nilsl 21)))
  true false) (.node .dead (.node o1 (.node (.cells 5 1 64 (fB 24) true false) (.node .dead (.node .dead (.node .dead (fD 17) (lD (.map [] 0) 16)) (.node .dead (fD 17) (.node .dead
  (.node .dead (.node .dead (fD 14) (.node .dead (lD (.cells 167 1 1 (lA (.ptr 1882 0) 23) true false) 12) (fD 13))) (fD 15)) (fD 16)))) (fD 19)) (.node .dead (.node .dead (.node
  .dead (fD 17) (.node .dead (fD 16) (.node .dead (fD 15) (lD o15 14)))) (fD 18)) (fD 19))) (.node .dead (.node .dead (.node .dead (fD 18) (lD (.cells 99 3 3 (.node .nilsl (lA .nilsl
  22) (lA (.bool false) 22)) false false) 17)) (.node .dead (.node .dead (fD 17) (.node .dead (.node .dead (fD 15) (.node .dead (fD 14) (lD (.cells 49 10 10 (.node (nI 5) (.node (nI
  0) (.node (nU 0) (lA (nU 0) 20) (fA 21)) (.node (nI 0) (lA .nilsl 20) (fA 21))) (.node (nI 0) (.node (nU 0) (lA (nI 0) 20) (fA 21)) (lA (.str (bs [])) 21))) true false) 13))) (fD
  16))) (fD 18))) (.node .dead (fD 19) (lD (.cells 5 1 64 (fB 24) true false) 18)))) (.node .dead (.node .dead (.node .dead (.node (.cells 5 1 64 (fB 24) true false) (fD 18) (.node
  .dead (fD 17) (.node .dead (.node .dead (.node .dead (fD 14) (.node .dead (lD o1 12) (fD 13))) (fD 15)) (fD 16)))) (.node .dead (.node .dead (fD 17) (.node .dead (.node .dead (fD
  15) (.node .dead (fD 14) (lD (.cells 106 12 12 (.node (nI 1) (.node (nI 0) (.node (nI 0) (lA (.str (bs [])) 20) (lA (nI 0) 20)) (.node (nU 0) (lA (nI 0) 20) (fA 21))) (.node (nI 0)
  (.node (nU 0) (lA (nU 0) 20) (fA 21)) (.node (nI 0) (lA .nilsl 20) (fA 21)))) true false) 13))) (fD 16))) (fD 18))) (.node .dead (fD 19) (.node .dead (.node .dead (.node .dead
  (.node .dead (.node .dead (fD 14) (.node .dead (fD 13) (lD (.cells 39 13 13 (.node (nI 119) (.node (nI 7) (.node (nI 0) (lA (nI 0) 20) (lA (nI 0) 20)) (.node (nI 0) (lA .nilsl 20)
  (fA 21))) (.node (nI 2) (.node (nI 0) (lA (.str (bs [])) 20) (lA (nI 0) 20)) (.node (.bool false) (lA (.bool false) 20) (fA 21)))) true false) 12))) (fD 15)) (fD 16)) (fD 17)) (fD
  18)))) (.node .dead (.node .dead (.node .dead (.node .dead (fD 17) (.node .dead (fD 16) (.node .dead (fD 15) (lD o15 14)))) (fD 18)) (.node .dead (lD (.cells 31 10 10 (.node (.ptr
  61 0) (.node (nI 1) (.node (nI 0) (lA .nil 20) (fA 21)) (.node (.bool false) (lA .nilfn 20) (fA 21))) (.node (nI 1) (.node .nilsl (lA .nil 20) (fA 21)) (lA .nilsl 21))) true false)
  17) (fD 18))) (.node .dead (fD 19) (.node (.cells 114 7 7 (.node (.sl 84 0 0 8 (.u 84 0)) (.node (.sl 82 0 0 8 (.u 82 0)) (lA (nU 0) 21) (lA (nU 0) 21)) (.node (.map 60) (lA (nU 0)
  21) (lA (nU 0) 21))) true false) (lD o1 17) (fD 18)))))) (.node .dead (.node .dead (.node .dead (.node .dead (.node .dead (.node .dead (fD 17) (lD (.cells 114 7 7 (.node (.sl 967 0
  0 384 (.u 967 0)) (.node (.sl 965 0 0 384 (.u 965 0)) (lA (nU 119) 21) (lA (nU 0) 21)) (.node (.map 191) (lA (nU 0) 21) (lA (nU 0) 21))) true false) 16)) (.node .dead (fD 17)
  (.node .dead (.node .dead (.node .dead (fD 14) (.node .dead (lD o17 12) (fD 13))) (fD 15)) (fD 16)))) (fD 19)) (.node .dead (.node .dead (.node .dead (fD 17) (.node .dead (fD 16)
  (.node .dead (fD 15) (lD (.cells 31 10 10 (.node (.ptr 192 0) (.node (nI 1) (.node (nI 120) (lA .nil 20) (fA 21)) (.node (.bool true) (lA (.fn (.func 72) [] [(.ptr 2655 0), (.ptr
  1880 0)]) 20) (fA 21))) (.node (nI 2) (.node .nilsl (lA .nil 20) (fA 21)) (lA .nilsl 21))) true false) 14)))) (fD 18)) (.node .dead (.node .dead (.node .dead (.node .dead (.node
  .dead (fD 14) (.node .dead (fD 13) (lD (.cells 43 1 119 (.node (nU 5929342154728227142) (.node (nU 3072) (.node (nU 18446744073709548543) (.node (nU 0) (.node (nU 0) (.node (nU 0)
  (lA (nU 0) 17) (lA (nU 0) 17)) (.node (nU 0) (lA (nU 0) 17) (lA (nU 0) 17))) (.node (nU 0) (.node (nU 0) (lA (nU 0) 17) (lA (nU 0) 17)) (.node (nU 0) (lA (nU 0) 17) (fA 18))))
  (.node (nU 0) (.node (nU 0) (.node (nU 0) (lA (nU 0) 17) (lA (nU 0) 17)) (.node (nU 0) (lA (nU 0) 17) (lA (nU 0) 17))) (.node (nU 0) (.node (nU 0) (lA (nU 0) 17) (lA (nU 0) 17))
  (.node (nU 0) (lA (nU 0) 17) (fA 18))))) (.node (nU 0) (.node (nU 0) (.node (nU 0) (.node (nU 0) (lA (nU 0) 17) (lA (nU 0) 17)) (.node (nU 0) (lA (nU 0) 17) (lA (nU 0) 17))) (.node
  (nU 0) (.node (nU 0) (lA (nU 0) 17) (lA (nU 0) 17)) (.node (nU 0) (lA (nU 0) 17) (fA 18)))) (.node (nU 0) (.node (nU 0) (.node (nU 0) (lA (nU 0) 17) (lA (nU 0) 17)) (.node (nU 0)
  (lA (nU 0) 17) (lA (nU 0) 17))) (.node (nU 0) (.node (nU 0) (lA (nU 0) 17) (lA (nU 0) 17)) (.node (nU 0) (lA (nU 0) 17) (fA 18)))))) (.node (nU 1088) (.node (nU 0) (.node (nU 0)
  (.node (nU 0) (.node (nU 0) (lA (nU 0) 17) (lA (nU 0) 17)) (.node (nU 0) (lA (nU 0) 17) (lA (nU 0) 17))) (.node (nU 0) (.node (nU 0) (lA (nU 0) 17) (lA (nU 0) 17)) (.node (nU 0)
  (lA (nU 0) 17) (fA 18)))) (.node (nU 0) (.node (nU 0) (.node (nU 0) (lA (nU 0) 17) (lA (nU 0) 17)) (.node (nU 0) (lA (nU 0) 17) (lA (nU 0) 17))) (.node (nU 0) (.node (nU 0) (lA (nU
  0) 17) (lA (nU 0) 17)) (.node (nU 0) (lA (nU 0) 17) (fA 18))))) (.node (nU 0) (.node (nU 0) (.node (nU 0) (.node (nU 0) (lA (nU 0) 17) (lA (nU 0) 17)) (.node (nU 0) (lA (nU 0) 17)
  (lA (nU 0) 17))) (.node (nU 0) (.node (nU 0) (lA (nU 0) 17) (lA (nU 0) 17)) (.node (nU 0) (lA (nU 0) 17) (fA 18)))) (.node (nU 0) (.node (nU 0) (.node (nU 0) (lA (nU 0) 17) (lA (nU
  0) 17)) (.node (nU 0) (lA (nU 0) 17) (lA (nU 0) 17))) (.node (nU 0) (.node (nU 0) (lA (nU 0) 17) (lA (nU 0) 17)) (.node (nU 0) (lA (nU 0) 17) (fA 18))))))) false false) 12))) (fD
  15)) (fD 16)) (.node .dead (.node .dead (fD 15) (.node .dead (fD 14) (lD (.cells 22 1 1 (lA (.ptr 968 0) 23) true false) 13))) (fD 16))) (fD 18)))) (.node .dead (.node .dead (.node
  .dead (fD 18) (lD o7 17)) (.node .dead (lD (.cells 43 1 8 (.node (nU 0) (.node (nU 0) (.node (nU 0) (lA (nU 0) 20) (fA 21)) (lA (nU 0) 21)) (.node (nU 0) (lA (nU 0) 21) (lA (nU 0)
  21))) false false) 17) (fD 18))) (.node .dead (fD 19) (lD (.map [] 0) 18)))) (.node o1 (.node .dead (.node .dead (fD 19) (.node .dead (.node (.cells 43 1 8 (.node (nU 0) (.node (nU
  0) (.node (nU 0) (lA (nU 0) 20) (fA 21)) (lA (nU 0) 21)) (.node (nU 0) (lA (nU 0) 21) (lA (nU 0) 21))) false false) (fD 17) (.node .dead (.node .dead (fD 15) (.node .dead (fD 14)
  (lD (.cells 106 12 12 (.node (nI 1) (.node (nI 0) (.node (nI 0) (lA (.str (bs [])) 20) (lA (nI 0) 20)) (.node (nU 0) (lA (nI 0) 20) (fA 21))) (.node (nI 0) (.node (nU 0) (lA (nU 0)
  20) (fA 21)) (.node (nI 0) (lA .nilsl 20) (fA 21)))) true false) 13))) (fD 16))) (fD 18))) (.node .dead (fD 19) (.node .dead (.node .dead (fD 17) (.node .dead (.node .dead (fD 15)
  (.node .dead (fD 14) (lD (.cells 235 12 12 (.node (.ptr 192 0) (.node (.sl 2654 119 0 265 (.u 2654 119)) (.node (.fn (.func 118) [(.ptr 1882 0)] []) (lA .nilsl 20) (lA (nI 0) 20))
  (.node (nI 0) (lA .nilsl 20) (fA 21))) (.node (.sl 3608 0 0 119 (.u 3608 0)) (.node (.bool false) (lA .nilsl 20) (fA 21)) (.node .nilsl (lA (nI 0) 20) (fA 21)))) true false) 13)))
  (fD 16))) (fD 18)))) (.node .dead (fD 20) (.node .dead (fD 19) (.node .dead (.node .dead (fD 17) (.node .dead (.node .dead (.node .dead (fD 14) (.node .dead (lD o19 12) (fD 13)))
  (fD 15)) (fD 16))) (fD 18))))))), 3610⟩,
  [.lp (codeAt Tryz.f58 [1, 0, 1, 0, 0]), .blk 0, .code (codeAt Tryz.f58 [1, 1])]⟩
/-- where the run stands at the end of part 10 -/
noncomputable def s10 : St :=
  ⟨⟨58, 27, [], .normal, none,
  [o18,
    o16,
    o6]⟩,
  .run,
  (.node (.ptr 968 0) (.node (nI 3136) (.node undefV (.node (.ptr 4241 0) (lU (.ptr 968 0) 19) (lU (.ptr 4241 10)
  19)) (.node (.bool true) (lU (nI 0) 19) (fU 20))) (.node (.bool false) (.node (nI 197) (lU (.tup [(.agg [(nI 198), (nI 7), (nI 2), (nI 0), (nI 0), (nI 0), (.bool false), (nI 0),
  (.str (bs [])), .nilsl, (.bool false), (nI 0), (nI 0)]), (nI 0)]) 19) (fU 20)) (.node (nI 197) (lU (.bool false) 19) (fU 20)))) (.node undefV (.node (.ptr 2657 0) (.node (nI 0) (lU
  (.agg [(nI 7), (nI 0), (nI 0), (nU 0), (nU 0), (nI 0), (.str (bs [])), (nU 0), (nI 0), .nilsl]) 19) (lU (.bool false) 19)) (.node (nI 196) (lU (nI 0) 19) (fU 20))) (.node (nI 197)
  (.node (nI 3136) (lU (.agg [(nI 198), (nI 7), (nI 2), (nI 0), (nI 0), (nI 0), (.bool false), (nI 0), (.str (bs [])), .nilsl, (.bool false), (nI 0), (nI 0)]) 19) (fU 20)) (lU (.tup
  [(.agg [(nI 198), (nI 7), (nI 2), (nI 0), (nI 0), (nI 0), (.bool false), (nI 0), (.str (bs [])), .nilsl, (.bool false), (nI 0), (nI 0)]), (nI 0)]) 20)))),
  ⟨(.node (.cells 31 10
  10 (.node .nil (.node (nI 0) (.node (nI 0) (lA .nil 20) (fA 21)) (.node (.bool false) (lA .nilfn 20) (fA 21))) (.node (nI 0) (.node .nilsl (lA .nil 20) (fA 21)) (lA .nilsl 21)))
  true false) (.node .dead (.node o1 (.node (.cells 5 1 64 (fB 24) true false) (.node .dead (.node .dead (.node .dead (fD 17) (lD (.map [] 0) 16)) (.node .dead (fD 17) (.node .dead
  (.node .dead (.node .dead (fD 14) (.node .dead (lD (.cells 167 1 1 (lA (.ptr 1882 0) 23) true false) 12) (fD 13))) (fD 15)) (fD 16)))) (fD 19)) (.node .dead (.node .dead (.node
  .dead (fD 17) (.node .dead (fD 16) (.node .dead (fD 15) (lD o15 14)))) (fD 18)) (fD 19))) (.node .dead (.node .dead (.node .dead (fD 18) (lD (.cells 99 3 3 (.node .nilsl (lA .nilsl
  22) (lA (.bool false) 22)) false false) 17)) (.node .dead (.node .dead (fD 17) (.node .dead (.node .dead (fD 15) (.node .dead (fD 14) (lD (.cells 49 10 10 (.node (nI 5) (.node (nI
  0) (.node (nU 0) (lA (nU 0) 20) (fA 21)) (.node (nI 0) (lA .nilsl 20) (fA 21))) (.node (nI 0) (.node (nU 0) (lA (nI 0) 20) (fA 21)) (lA (.str (bs [])) 21))) true false) 13))) (fD
  16))) (fD 18))) (.node .dead (fD 19) (lD (.cells 5 1 64 (fB 24) true false) 18)))) (.node .dead (.node .dead (.node .dead (.node (.cells 5 1 64 (fB 24) true false) (fD 18) (.node
  .dead (fD 17) (.node .dead (.node .dead (.node .dead (fD 14) (.node .dead (lD o1 12) (fD 13))) (fD 15)) (fD 16)))) (.node .dead (.node .dead (.node .dead (fD 16) (.node .dead
  (.node .dead (.node .dead (.node .dead (lD (.cells 39 13 13 (.node (nI 198) (.node (nI 7) (.node (nI 0) (lA (nI 0) 20) (lA (nI 0) 20)) (.node (nI 0) (lA .nilsl 20) (fA 21))) (.node
  (nI 2) (.node (nI 0) (lA (.str (bs [])) 20) (lA (nI 0) 20)) (.node (.bool false) (lA (.bool false) 20) (fA 21)))) true false) 11) (fD 12)) (fD 13)) (fD 14)) (fD 15))) (.node .dead
  (.node .dead (fD 15) (.node .dead (fD 14) (lD (.cells 106 12 12 (.node (nI 1) (.node (nI 0) (.node (nI 0) (lA (.str (bs [])) 20) (lA (nI 0) 20)) (.node (nU 0) (lA (nI 0) 20) (fA
  21))) (.node (nI 0) (.node (nU 0) (lA (nU 0) 20) (fA 21)) (.node (nI 0) (lA .nilsl 20) (fA 21)))) true false) 13))) (fD 16))) (fD 18))) (fD 20)) (.node .dead (.node .dead (.node
  .dead (.node .dead (fD 17) (.node .dead (fD 16) (.node .dead (fD 15) (lD o15 14)))) (fD 18)) (.node .dead (lD (.cells 31 10 10 (.node (.ptr 61 0) (.node (nI 1) (.node (nI 0) (lA
  .nil 20) (fA 21)) (.node (.bool false) (lA .nilfn 20) (fA 21))) (.node (nI 1) (.node .nilsl (lA .nil 20) (fA 21)) (lA .nilsl 21))) true false) 17) (fD 18))) (.node .dead (fD 19)
  (.node (.cells 114 7 7 (.node (.sl 84 0 0 8 (.u 84 0)) (.node (.sl 82 0 0 8 (.u 82 0)) (lA (nU 0) 21) (lA (nU 0) 21)) (.node (.map 60) (lA (nU 0) 21) (lA (nU 0) 21))) true false)
  (lD o1 17) (fD 18)))))) (.node .dead (.node .dead (.node .dead (.node .dead (.node .dead (.node .dead (fD 17) (lD (.cells 114 7 7 (.node (.sl 967 0 0 384 (.u 967 0)) (.node (.sl
  965 0 0 384 (.u 965 0)) (lA (nU 198) 21) (lA (nU 0) 21)) (.node (.map 191) (lA (nU 0) 21) (lA (nU 0) 21))) true false) 16)) (.node .dead (fD 17) (.node .dead (.node .dead (.node
  .dead (fD 14) (.node .dead (lD o17 12) (fD 13))) (fD 15)) (fD 16)))) (.node .dead (.node .dead (.node .dead (fD 16) (.node .dead (.node .dead (.node .dead (.node .dead (lD (.cells
  43 1 198 (.node (nU 5929342154728227142) (.node (nU 3072) (.node (nU 18446744073709548543) (.node (nU 0) (.node (nU 0) (.node (nU 0) (.node (nU 0) (lA (nU 0) 16) (lA (nU 0) 16))
  (.node (nU 0) (lA (nU 0) 16) (fA 17))) (.node (nU 0) (.node (nU 0) (lA (nU 0) 16) (fA 17)) (.node (nU 0) (lA (nU 0) 16) (fA 17)))) (.node (nU 0) (.node (nU 0) (.node (nU 0) (lA (nU
  0) 16) (fA 17)) (.node (nU 0) (lA (nU 0) 16) (fA 17))) (.node (nU 0) (.node (nU 0) (lA (nU 0) 16) (fA 17)) (.node (nU 0) (lA (nU 0) 16) (fA 17))))) (.node (nU 0) (.node (nU 0)
  (.node (nU 0) (.node (nU 0) (lA (nU 0) 16) (lA (nU 0) 16)) (.node (nU 0) (lA (nU 0) 16) (fA 17))) (.node (nU 0) (.node (nU 0) (lA (nU 0) 16) (fA 17)) (.node (nU 0) (lA (nU 0) 16)
  (fA 17)))) (.node (nU 0) (.node (nU 0) (.node (nU 0) (lA (nU 0) 16) (fA 17)) (.node (nU 0) (lA (nU 0) 16) (fA 17))) (.node (nU 0) (.node (nU 0) (lA (nU 0) 16) (fA 17)) (.node (nU
  0) (lA (nU 0) 16) (fA 17)))))) (.node (nU 0) (.node (nU 0) (.node (nU 0) (.node (nU 0) (.node (nU 0) (lA (nU 1) 16) (lA (nU 0) 16)) (.node (nU 0) (lA (nU 0) 16) (fA 17))) (.node
  (nU 0) (.node (nU 0) (lA (nU 0) 16) (fA 17)) (.node (nU 0) (lA (nU 0) 16) (fA 17)))) (.node (nU 0) (.node (nU 0) (.node (nU 0) (lA (nU 0) 16) (fA 17)) (.node (nU 0) (lA (nU 0) 16)
  (fA 17))) (.node (nU 0) (.node (nU 0) (lA (nU 0) 16) (fA 17)) (.node (nU 0) (lA (nU 0) 16) (fA 17))))) (.node (nU 0) (.node (nU 0) (.node (nU 0) (.node (nU 0) (lA (nU 0) 16) (lA
  (nU 0) 16)) (.node (nU 0) (lA (nU 0) 16) (fA 17))) (.node (nU 0) (.node (nU 0) (lA (nU 0) 16) (fA 17)) (.node (nU 0) (lA (nU 0) 16) (fA 17)))) (.node (nU 0) (.node (nU 0) (.node
  (nU 0) (lA (nU 0) 16) (fA 17)) (.node (nU 0) (lA (nU 0) 16) (fA 17))) (.node (nU 0) (.node (nU 0) (lA (nU 0) 16) (fA 17)) (.node (nU 0) (lA (nU 0) 16) (fA 17))))))) (.node (nU
  1088) (.node (nU 0) (.node (nU 0) (.node (nU 0) (.node (nU 0) (.node (nU 0) (lA (nU 3) 16) (lA (nU 0) 16)) (.node (nU 0) (lA (nU 0) 16) (fA 17))) (.node (nU 0) (.node (nU 0) (lA
  (nU 0) 16) (fA 17)) (.node (nU 0) (lA (nU 0) 16) (fA 17)))) (.node (nU 0) (.node (nU 0) (.node (nU 0) (lA (nU 5495893775785918464) 16) (fA 17)) (.node (nU 0) (lA (nU 0) 16) (fA
  17))) (.node (nU 0) (.node (nU 0) (lA (nU 0) 16) (fA 17)) (.node (nU 0) (lA (nU 0) 16) (fA 17))))) (.node (nU 0) (.node (nU 0) (.node (nU 0) (.node (nU 0) (lA (nU 0) 16) (lA (nU 0)
  16)) (.node (nU 0) (lA (nU 0) 16) (fA 17))) (.node (nU 0) (.node (nU 0) (lA (nU 0) 16) (fA 17)) (.node (nU 0) (lA (nU 0) 16) (fA 17)))) (.node (nU 0) (.node (nU 0) (.node (nU 0)
  (lA (nU 1088) 16) (fA 17)) (.node (nU 0) (lA (nU 0) 16) (fA 17))) (.node (nU 0) (.node (nU 0) (lA (nU 0) 16) (fA 17)) (.node (nU 0) (lA (nU 0) 16) (fA 17)))))) (.node (nU 0) (.node
  (nU 0) (.node (nU 0) (.node (nU 0) (.node (nU 0) (lA (nU 0) 16) (lA (nU 0) 16)) (.node (nU 0) (lA (nU 0) 16) (fA 17))) (.node (nU 0) (.node (nU 0) (lA (nU 0) 16) (fA 17)) (.node
  (nU 0) (lA (nU 0) 16) (fA 17)))) (.node (nU 0) (.node (nU 0) (.node (nU 0) (lA (nU 0) 16) (fA 17)) (.node (nU 0) (lA (nU 0) 16) (fA 17))) (.node (nU 0) (.node (nU 0) (lA (nU 0) 16)
  (fA 17)) (.node (nU 0) (lA (nU 0) 16) (fA 17))))) (.node (nU 0) (.node (nU 0) (.node (nU 0) (.node (nU 0) (lA (nU 0) 16) (fA 17)) (.node (nU 0) (lA (nU 0) 16) (fA 17))) (.node (nU
  0) (.node (nU 0) (lA (nU 0) 16) (fA 17)) (.node (nU 0) (lA (nU 0) 16) (fA 17)))) (.node (nU 0) (.node (nU 0) (.node (nU 0) (lA (nU 0) 16) (fA 17)) (.node (nU 0) (lA (nU 0) 16) (fA
  17))) (.node (nU 0) (.node (nU 0) (lA (nU 0) 16) (fA 17)) (.node (nU 0) (lA (nU 0) 16) (fA 17)))))))) false false) 11) (fD 12)) (fD 13)) (fD 14)) (fD 15))) (fD 17)) (fD 18)))
  (.node .dead (.node .dead (.node .dead (fD 17) (.node .dead (fD 16) (.node .dead (fD 15) (lD (.cells 31 10 10 (.node (.ptr 192 0) (.node (nI 1) (.node (nI 199) (lA .nil 20) (fA
  21)) (.node (.bool true) (lA (.fn (.func 72) [] [(.ptr 2655 0), (.ptr 1880 0)]) 20) (fA 21))) (.node (nI 2) (.node .nilsl (lA .nil 20) (fA 21)) (lA .nilsl 21))) true false) 14))))
  (fD 18)) (.node .dead (.node .dead (fD 17) (.node .dead (.node .dead (fD 15) (.node .dead (fD 14) (lD (.cells 22 1 1 (lA (.ptr 968 0) 23) true false) 13))) (fD 16))) (fD 18))))
  (.node .dead (.node .dead (.node .dead (fD 18) (lD o7 17)) (.node .dead (lD (.cells 43 1 8 (.node (nU 0) (.node (nU 0) (.node (nU 0) (lA (nU 0) 20) (fA 21)) (lA (nU 0) 21)) (.node
  (nU 0) (lA (nU 0) 21) (lA (nU 0) 21))) false false) 17) (fD 18))) (.node .dead (fD 19) (lD (.map [] 0) 18)))) (.node o1 (.node .dead (.node .dead (fD 19) (.node .dead (.node
  (.cells 43 1 8 (.node (nU 0) (.node (nU 0) (.node (nU 0) (lA (nU 0) 20) (fA 21)) (lA (nU 0) 21)) (.node (nU 0) (lA (nU 0) 21) (lA (nU 0) 21))) false false) (fD 17) (.node .dead
  (.node .dead (fD 15) (.node .dead (fD 14) (lD (.cells 106 12 12 (.node (nI 1) (.node (nI 0) (.node (nI 0) (lA (.str (bs [])) 20) (lA (nI 0) 20)) (.node (nU 0) (lA (nI 0) 20) (fA
  21))) (.node (nI 0) (.node (nU 0) (lA (nU 0) 20) (fA 21)) (.node (nI 0) (lA .nilsl 20) (fA 21)))) true false) 13))) (fD 16))) (fD 18))) (.node .dead (fD 19) (.node .dead (.node
  .dead (fD 17) (.node .dead (.node .dead (fD 15) (.node .dead (fD 14) (lD (.cells 235 12 12 (.node (.ptr 192 0) (.node (.sl 2654 198 0 186 (.u 2654 198)) (.node (.fn (.func 118)
  [(.ptr 1882 0)] []) (lA .nilsl 20) (lA (nI 0) 20)) (.node (nI 0) (lA .nilsl 20) (fA 21))) (.node (.sl 4240 0 0 198 (.u 4240 0)) (.node (.bool false) (lA .nilsl 20) (fA 21)) (.node
  .nilsl (lA (nI 0) 20) (fA 21)))) true false) 13))) (fD 16))) (fD 18)))) (.node .dead (fD 20) (.node .dead (fD 19) (.node .dead (.node .dead (fD 17) (.node .dead (.node .dead (.node
  .dead (fD 14) (.node .dead (lD o19 12) (fD 13))) (fD 15)) (fD 16))) (fD 18))))))), 4242⟩,
  [.code (codeAt Tryz.f58 [1, 0, 1, 0, 0, 1, 1]), .lp (codeAt Tryz.f58 [1, 0, 1, 0, 0]),
  .blk 0, .code (codeAt Tryz.f58 [1, 1])]⟩
/-- where the run stands at the end of part 11 -/
noncomputable def s11 : St :=
  ⟨⟨58, 27, [], .normal, none,
  [o18,
    o16,
    o6]⟩,
  .run,
  (.node (.ptr 968 0) (.node (nI 3136) (.node undefV (.node (.ptr 4873 0) (lU (.ptr 968 0) 19) (lU (.ptr 4873 10)
  19)) (.node (.bool true) (lU (nI 0) 19) (fU 20))) (.node (.bool false) (.node (nI 276) (lU (.tup [(.agg [(nI 277), (nI 7), (nI 2), (nI 0), (nI 0), (nI 0), (.bool false), (nI 0),
  (.str (bs [])), .nilsl, (.bool false), (nI 0), (nI 0)]), (nI 0)]) 19) (fU 20)) (.node (nI 276) (lU (.bool false) 19) (fU 20)))) (.node undefV (.node (.ptr 2657 0) (.node (nI 0) (lU
  (.agg [(nI 7), (nI 0), (nI 0), (nU 0), (nU 0), (nI 0), (.str (bs [])), (nU 0), (nI 0), .nilsl]) 19) (lU (.bool false) 19)) (.node (nI 275) (lU (nI 0) 19) (fU 20))) (.node (nI 276)
  (.node (nI 3136) (lU (.agg [(nI 277), (nI 7), (nI 2), (nI 0), (nI 0), (nI 0), (.bool false), (nI 0), (.str (bs [])), .nilsl, (.bool false), (nI 0), (nI 0)]) 19) (fU 20)) (lU (.tup
  [(.agg [(nI 277), (nI 7), (nI 2), (nI 0), (nI 0), (nI 0), (.bool false), (nI 0), (.str (bs [])), .nilsl, (.bool false), (nI 0), (nI 0)]), (nI 0)]) 20)))),
  ⟨(.node (.cells 31 10
  10 (.node .nil (.node (nI 0) (.node (nI 0) (lA .nil 20) (fA 21)) (.node (.bool false) (lA .nilfn 20) (fA 21))) (.node (nI 0) (.node .nilsl (lA .nil 20) (fA 21)) (lA .nilsl 21)))
  true false) (.node .dead (.node o1 (.node (.cells 5 1 64 (fB 24) true false) (.node .dead (.node .dead (.node .dead (fD 17) (lD (.map [] 0) 16)) (.node .dead (fD 17) (.node .dead
  (.node .dead (.node .dead (fD 14) (.node .dead (lD (.cells 167 1 1 (lA (.ptr 1882 0) 23) true false) 12) (fD 13))) (fD 15)) (fD 16)))) (fD 19)) (.node .dead (.node .dead (.node
  .dead (fD 17) (.node .dead (fD 16) (.node .dead (fD 15) (lD o15 14)))) (fD 18)) (fD 19))) (.node .dead (.node .dead (.node .dead (fD 18) (lD (.cells 99 3 3 (.node .nilsl (lA .nilsl
  22) (lA (.bool false) 22)) false false) 17)) (.node .dead (.node .dead (fD 17) (.node .dead (.node .dead (fD 15) (.node .dead (fD 14) (lD (.cells 49 10 10 (.node (nI 5) (.node (nI
  0) (.node (nU 0) (lA (nU 0) 20) (fA 21)) (.node (nI 0) (lA .nilsl 20) (fA 21))) (.node (nI 0) (.node (nU 0) (lA (nI 0) 20) (fA 21)) (lA (.str (bs [])) 21))) true false) 13))) (fD
  16))) (fD 18))) (.node .dead (fD 19) (lD (.cells 5 1 64 (fB 24) true false) 18)))) (.node .dead (.node .dead (.node .dead (.node (.cells 5 1 64 (fB 24) true false) (fD 18) (.node
  .dead (fD 17) (.node .dead (.node .dead (.node .dead (fD 14) (.node .dead (lD o1 12) (fD 13))) (fD 15)) (fD 16)))) (.node .dead (.node .dead (fD 17) (.node .dead (.node .dead (fD
  15) (.node .dead (fD 14) (lD (.cells 106 12 12 (.node (nI 1) (.node (nI 0) (.node (nI 0) (lA (.str (bs [])) 20) (lA (nI 0) 20)) (.node (nU 0) (lA (nI 0) 20) (fA 21))) (.node (nI 0)
  (.node (nU 0) (lA (nU 0) 20) (fA 21)) (.node (nI 0) (lA .nilsl 20) (fA 21)))) true false) 13))) (fD 16))) (fD 18))) (.node .dead (.node .dead (.node .dead (.node .dead (.node .dead
  (fD 15) (.node .dead (fD 14) (.node .dead (.node .dead (lD (.cells 39 13 13 (.node (nI 277) (.node (nI 7) (.node (nI 0) (lA (nI 0) 20) (lA (nI 0) 20)) (.node (nI 0) (lA .nilsl 20)
  (fA 21))) (.node (nI 2) (.node (nI 0) (lA (.str (bs [])) 20) (lA (nI 0) 20)) (.node (.bool false) (lA (.bool false) 20) (fA 21)))) true false) 11) (fD 12)) (fD 13)))) (fD 16)) (fD
  17)) (fD 18)) (fD 19))) (.node .dead (.node .dead (.node .dead (.node .dead (fD 17) (.node .dead (fD 16) (.node .dead (fD 15) (lD o15 14)))) (fD 18)) (.node .dead (lD (.cells 31 10
  10 (.node (.ptr 61 0) (.node (nI 1) (.node (nI 0) (lA .nil 20) (fA 21)) (.node (.bool false) (lA .nilfn 20) (fA 21))) (.node (nI 1) (.node .nilsl (lA .nil 20) (fA 21)) (lA .nilsl
  21))) true false) 17) (fD 18))) (.node .dead (fD 19) (.node (.cells 114 7 7 (.node (.sl 84 0 0 8 (.u 84 0)) (.node (.sl 82 0 0 8 (.u 82 0)) (lA (nU 0) 21) (lA (nU 0) 21)) (.node
  (.map 60) (lA (nU 0) 21) (lA (nU 0) 21))) true false) (lD o1 17) (fD 18)))))) (.node .dead (.node .dead (.node .dead (.node .dead (.node .dead (.node .dead (fD 17) (lD (.cells 114
  7 7 (.node (.sl 967 0 0 384 (.u 967 0)) (.node (.sl 965 0 0 384 (.u 965 0)) (lA (nU 277) 21) (lA (nU 0) 21)) (.node (.map 191) (lA (nU 0) 21) (lA (nU 0) 21))) true false) 16))
  (.node .dead (fD 17) (.node .dead (.node .dead (.node .dead (fD 14) (.node .dead (lD o17 12) (fD 13))) (fD 15)) (fD 16)))) (fD 19)) (.node .dead (.node .dead (.node .dead (.node
  .dead (.node .dead (fD 15) (.node .dead (fD 14) (.node .dead (.node .dead (lD (.cells 43 1 277 (.node (nU 5929342154728227142) (.node (nU 3072) (.node (nU 18446744073709548543)
  (.node (nU 0) (.node (nU 0) (.node (nU 0) (.node (nU 0) (.node (nU 0) (lA (nU 0) 15) (fA 16)) (lA (nU 0) 16)) (.node (nU 0) (lA (nU 0) 16) (lA (nU 0) 16))) (.node (nU 0) (.node (nU
  0) (.node (nU 0) (lA (nU 0) 15) (fA 16)) (lA (nU 0) 16)) (.node (nU 0) (lA (nU 0) 16) (lA (nU 0) 16)))) (.node (nU 0) (.node (nU 0) (.node (nU 0) (.node (nU 0) (lA (nU 0) 15) (fA
  16)) (lA (nU 0) 16)) (.node (nU 0) (lA (nU 0) 16) (lA (nU 0) 16))) (.node (nU 0) (.node (nU 0) (lA (nU 0) 16) (lA (nU 0) 16)) (.node (nU 0) (lA (nU 0) 16) (lA (nU 0) 16))))) (.node
  (nU 0) (.node (nU 0) (.node (nU 0) (.node (nU 0) (.node (nU 0) (lA (nU 0) 15) (fA 16)) (lA (nU 0) 16)) (.node (nU 0) (lA (nU 0) 16) (lA (nU 0) 16))) (.node (nU 0) (.node (nU 0)
  (.node (nU 0) (lA (nU 0) 15) (fA 16)) (lA (nU 0) 16)) (.node (nU 0) (lA (nU 0) 16) (lA (nU 0) 16)))) (.node (nU 0) (.node (nU 0) (.node (nU 0) (.node (nU 0) (lA (nU 0) 15) (fA 16))
  (lA (nU 0) 16)) (.node (nU 0) (lA (nU 0) 16) (lA (nU 0) 16))) (.node (nU 0) (.node (nU 0) (lA (nU 0) 16) (lA (nU 0) 16)) (.node (nU 0) (lA (nU 0) 16) (lA (nU 0) 16)))))) (.node (nU
  0) (.node (nU 0) (.node (nU 0) (.node (nU 0) (.node (nU 0) (.node (nU 1) (lA (nU 0) 15) (fA 16)) (lA (nU 0) 16)) (.node (nU 0) (lA (nU 0) 16) (lA (nU 0) 16))) (.node (nU 0) (.node
  (nU 0) (.node (nU 0) (lA (nU 0) 15) (fA 16)) (lA (nU 0) 16)) (.node (nU 0) (lA (nU 0) 16) (lA (nU 0) 16)))) (.node (nU 0) (.node (nU 0) (.node (nU 0) (.node (nU 0) (lA (nU 0) 15)
  (fA 16)) (lA (nU 0) 16)) (.node (nU 0) (lA (nU 0) 16) (lA (nU 0) 16))) (.node (nU 0) (.node (nU 0) (lA (nU 0) 16) (lA (nU 0) 16)) (.node (nU 0) (lA (nU 0) 16) (lA (nU 0) 16)))))
  (.node (nU 0) (.node (nU 0) (.node (nU 0) (.node (nU 0) (.node (nU 0) (lA (nU 0) 15) (fA 16)) (lA (nU 0) 16)) (.node (nU 0) (lA (nU 0) 16) (lA (nU 0) 16))) (.node (nU 0) (.node (nU
  0) (lA (nU 0) 16) (lA (nU 0) 16)) (.node (nU 0) (lA (nU 0) 16) (lA (nU 0) 16)))) (.node (nU 0) (.node (nU 0) (.node (nU 0) (.node (nU 0) (lA (nU 0) 15) (fA 16)) (lA (nU 0) 16))
  (.node (nU 0) (lA (nU 0) 16) (lA (nU 0) 16))) (.node (nU 0) (.node (nU 0) (lA (nU 0) 16) (lA (nU 0) 16)) (.node (nU 0) (lA (nU 0) 16) (lA (nU 0) 16))))))) (.node (nU 1088) (.node
  (nU 0) (.node (nU 0) (.node (nU 0) (.node (nU 0) (.node (nU 0) (.node (nU 3) (lA (nU 0) 15) (fA 16)) (lA (nU 0) 16)) (.node (nU 0) (lA (nU 0) 16) (lA (nU 0) 16))) (.node (nU 0)
  (.node (nU 0) (.node (nU 0) (lA (nU 0) 15) (fA 16)) (lA (nU 0) 16)) (.node (nU 0) (lA (nU 0) 16) (lA (nU 0) 16)))) (.node (nU 0) (.node (nU 0) (.node (nU 0) (.node (nU
  5495893775785918464) (lA (nU 0) 15) (fA 16)) (lA (nU 0) 16)) (.node (nU 0) (lA (nU 0) 16) (lA (nU 0) 16))) (.node (nU 0) (.node (nU 0) (lA (nU 0) 16) (lA (nU 0) 16)) (.node (nU 0)
  (lA (nU 0) 16) (lA (nU 0) 16))))) (.node (nU 0) (.node (nU 0) (.node (nU 0) (.node (nU 0) (.node (nU 0) (lA (nU 0) 15) (fA 16)) (lA (nU 0) 16)) (.node (nU 0) (lA (nU 0) 16) (lA (nU
  0) 16))) (.node (nU 0) (.node (nU 0) (.node (nU 0) (lA (nU 0) 15) (fA 16)) (lA (nU 0) 16)) (.node (nU 0) (lA (nU 0) 16) (lA (nU 0) 16)))) (.node (nU 0) (.node (nU 0) (.node (nU 0)
  (.node (nU 1088) (lA (nU 0) 15) (fA 16)) (lA (nU 0) 16)) (.node (nU 0) (lA (nU 0) 16) (lA (nU 0) 16))) (.node (nU 0) (.node (nU 0) (lA (nU 0) 16) (lA (nU 0) 16)) (.node (nU 0) (lA
  (nU 0) 16) (lA (nU 0) 16)))))) (.node (nU 0) (.node (nU 0) (.node (nU 0) (.node (nU 0) (.node (nU 0) (.node (nU 0) (lA (nU 0) 15) (fA 16)) (lA (nU 0) 16)) (.node (nU 0) (lA (nU 0)
  16) (lA (nU 0) 16))) (.node (nU 0) (.node (nU 0) (.node (nU 0) (lA (nU 0) 15) (fA 16)) (lA (nU 0) 16)) (.node (nU 0) (lA (nU 0) 16) (lA (nU 0) 16)))) (.node (nU 0) (.node (nU 0)
  (.node (nU 0) (.node (nU 0) (lA (nU 0) 15) (fA 16)) (lA (nU 0) 16)) (.node (nU 0) (lA (nU 0) 16) (lA (nU 0) 16))) (.node (nU 0) (.node (nU 0) (lA (nU 0) 16) (lA (nU 0) 16)) (.node
  (nU 0) (lA (nU 0) 16) (lA (nU 0) 16))))) (.node (nU 0) (.node (nU 0) (.node (nU 0) (.node (nU 0) (.node (nU 0) (lA (nU 0) 15) (fA 16)) (lA (nU 0) 16)) (.node (nU 0) (lA (nU 0) 16)
  (lA (nU 0) 16))) (.node (nU 0) (.node (nU 0) (lA (nU 0) 16) (lA (nU 0) 16)) (.node (nU 0) (lA (nU 0) 16) (lA (nU 0) 16)))) (.node (nU 0) (.node (nU 0) (.node (nU 0) (.node (nU 0)
  (lA (nU 0) 15) (fA 16)) (lA (nU 0) 16)) (.node (nU 0) (lA (nU 0) 16) (lA (nU 0) 16))) (.node (nU 0) (.node (nU 0) (lA (nU 0) 16) (lA (nU 0) 16)) (.node (nU 0) (lA (nU 0) 16) (lA
  (nU 0) 16)))))))) false false) 11) (fD 12)) (fD 13)))) (fD 16)) (.node .dead (fD 16) (.node .dead (fD 15) (lD (.cells 31 10 10 (.node (.ptr 192 0) (.node (nI 1) (.node (nI 278) (lA
  .nil 20) (fA 21)) (.node (.bool true) (lA (.fn (.func 72) [] [(.ptr 2655 0), (.ptr 1880 0)]) 20) (fA 21))) (.node (nI 2) (.node .nilsl (lA .nil 20) (fA 21)) (lA .nilsl 21))) true
  false) 14)))) (fD 18)) (.node .dead (.node .dead (fD 17) (.node .dead (.node .dead (fD 15) (.node .dead (fD 14) (lD (.cells 22 1 1 (lA (.ptr 968 0) 23) true false) 13))) (fD 16)))
  (fD 18)))) (.node .dead (.node .dead (.node .dead (fD 18) (lD o7 17)) (.node .dead (lD (.cells 43 1 8 (.node (nU 0) (.node (nU 0) (.node (nU 0) (lA (nU 0) 20) (fA 21)) (lA (nU 0)
  21)) (.node (nU 0) (lA (nU 0) 21) (lA (nU 0) 21))) false false) 17) (fD 18))) (.node .dead (fD 19) (lD (.map [] 0) 18)))) (.node o1 (.node .dead (.node .dead (fD 19) (.node .dead
  (.node (.cells 43 1 8 (.node (nU 0) (.node (nU 0) (.node (nU 0) (lA (nU 0) 20) (fA 21)) (lA (nU 0) 21)) (.node (nU 0) (lA (nU 0) 21) (lA (nU 0) 21))) false false) (fD 17) (.node
  .dead (.node .dead (fD 15) (.node .dead (fD 14) (lD (.cells 106 12 12 (.node (nI 1) (.node (nI 0) (.node (nI 0) (lA (.str (bs [])) 20) (lA (nI 0) 20)) (.node (nU 0) (lA (nI 0) 20)
  (fA 21))) (.node (nI 0) (.node (nU 0) (lA (nU 0) 20) (fA 21)) (.node (nI 0) (lA .nilsl 20) (fA 21)))) true false) 13))) (fD 16))) (fD 18))) (.node .dead (fD 19) (.node .dead (.node
  .dead (fD 17) (.node .dead (.node .dead (fD 15) (.node .dead (fD 14) (lD (.cells 235 12 12 (.node (.ptr 192 0) (.node (.sl 2654 277 0 107 (.u 2654 277)) (.node (.fn (.func 118)
  [(.ptr 1882 0)] []) (lA .nilsl 20) (lA (nI 0) 20)) (.node (nI 0) (lA .nilsl 20) (fA 21))) (.node (.sl 4872 0 0 277 (.u 4872 0)) (.node (.bool false) (lA .nilsl 20) (fA 21)) (.node
  .nilsl (lA (nI 0) 20) (fA 21)))) true false) 13))) (fD 16))) (fD 18)))) (.node .dead (fD 20) (.node .dead (fD 19) (.node .dead (.node .dead (fD 17) (.node .dead (.node .dead (.node
  .dead (fD 14) (.node .dead (lD o19 12) (fD 13))) (fD 15)) (fD 16))) (fD 18))))))), 4874⟩,
  [.blk 1, .code (codeAt Tryz.f58 [1, 0, 1, 0, 0, 1, 1]), .lp (codeAt Tryz.f58 [1, 0, 1,
  0, 0]), .blk 0, .code (codeAt Tryz.f58 [1, 1])]⟩
/-- where the run stands at the end of part 12 -/
noncomputable def s12 : St :=
  ⟨⟨58, 27, [], .normal, none,
  [o18,
    o16,
    o6]⟩,
  .run,
  (.node (.ptr 968 0) (.node (nI 3136) (.node undefV (.node (.ptr 5545 0) (lU (.ptr 968 0) 19) (lU (.ptr 5545 10)
  19)) (.node (.bool true) (lU (nI 0) 19) (fU 20))) (.node (.bool false) (.node (nI 361) (lU (.tup [(.agg [(nI 361), (nI 7), (nI 2), (nI 0), (nI 0), (nI 0), (.bool false), (nI 0),
  (.str (bs [])), .nilsl, (.bool false), (nI 0), (nI 0)]), (nI 0)]) 19) (fU 20)) (.node (nI 361) (lU (.bool false) 19) (fU 20)))) (.node undefV (.node (.ptr 2657 0) (.node (nI 0) (lU
  (.agg [(nI 7), (nI 0), (nI 0), (nU 0), (nU 0), (nI 0), (.str (bs [])), (nU 0), (nI 0), .nilsl]) 19) (lU (.bool false) 19)) (.node (nI 360) (lU (nI 0) 19) (fU 20))) (.node (nI 361)
  (.node (nI 3136) (lU (.agg [(nI 361), (nI 7), (nI 2), (nI 0), (nI 0), (nI 0), (.bool false), (nI 0), (.str (bs [])), .nilsl, (.bool false), (nI 0), (nI 0)]) 19) (fU 20)) (lU (.tup
  [(.agg [(nI 361), (nI 7), (nI 2), (nI 0), (nI 0), (nI 0), (.bool false), (nI 0), (.str (bs [])), .nilsl, (.bool false), (nI 0), (nI 0)]), (nI 0)]) 20)))),
  ⟨(.node (.cells 31 10
  10 (.node .nil (.node (nI 0) (.node (nI 0) (lA .nil 20) (fA 21)) (.node (.bool false) (lA .nilfn 20) (fA 21))) (.node (nI 0) (.node .nilsl (lA .nil 20) (fA 21)) (lA .nilsl 21)))
  true false) (.node .dead (.node o1 (.node (.cells 5 1 64 (fB 24) true false) (.node .dead (.node .dead (.node .dead (fD 17) (lD (.map [] 0) 16)) (.node .dead (fD 17) (.node .dead
  (.node .dead (.node .dead (fD 14) (.node .dead (lD (.cells 167 1 1 (lA (.ptr 1882 0) 23) true false) 12) (fD 13))) (fD 15)) (fD 16)))) (fD 19)) (.node .dead (.node .dead (.node
  .dead (fD 17) (.node .dead (fD 16) (.node .dead (fD 15) (lD o15 14)))) (fD 18)) (fD 19))) (.node .dead (.node .dead (.node .dead (fD 18) (lD (.cells 99 3 3 (.node .nilsl (lA .nilsl
  22) (lA (.bool false) 22)) false false) 17)) (.node .dead (.node .dead (fD 17) (.node .dead (.node .dead (fD 15) (.node .dead (fD 14) (lD (.cells 49 10 10 (.node (nI 5) (.node (nI
  0) (.node (nU 0) (lA (nU 0) 20) (fA 21)) (.node (nI 0) (lA .nilsl 20) (fA 21))) (.node (nI 0) (.node (nU 0) (lA (nI 0) 20) (fA 21)) (lA (.str (bs [])) 21))) true false) 13))) (fD
  16))) (fD 18))) (.node .dead (fD 19) (lD (.cells 5 1 64 (fB 24) true false) 18)))) (.node .dead (.node .dead (.node .dead (.node (.cells 5 1 64 (fB 24) true false) (fD 18) (.node
  .dead (fD 17) (.node .dead (.node .dead (.node .dead (fD 14) (.node .dead (lD o1 12) (fD 13))) (fD 15)) (fD 16)))) (.node .dead (.node .dead (fD 17) (.node .dead (.node .dead (fD
  15) (.node .dead (fD 14) (lD (.cells 106 12 12 (.node (nI 1) (.node (nI 0) (.node (nI 0) (lA (.str (bs [])) 20) (lA (nI 0) 20)) (.node (nU 0) (lA (nI 0) 20) (fA 21))) (.node (nI 0)
  (.node (nU 0) (lA (nU 0) 20) (fA 21)) (.node (nI 0) (lA .nilsl 20) (fA 21)))) true false) 13))) (fD 16))) (fD 18))) (.node .dead (.node .dead (fD 18) (.node .dead (.node .dead (fD
  16) (.node .dead (fD 15) (.node .dead (.node .dead (fD 13) (.node .dead (lD (.cells 39 13 13 (.node (nI 361) (.node (nI 7) (.node (nI 0) (lA (nI 0) 20) (lA (nI 0) 20)) (.node (nI
  0) (lA .nilsl 20) (fA 21))) (.node (nI 2) (.node (nI 0) (lA (.str (bs [])) 20) (lA (nI 0) 20)) (.node (.bool false) (lA (.bool false) 20) (fA 21)))) true false) 11) (fD 12))) (fD
  14)))) (fD 17))) (fD 19))) (.node .dead (.node .dead (.node .dead (.node .dead (fD 17) (.node .dead (fD 16) (.node .dead (fD 15) (lD o15 14)))) (fD 18)) (.node .dead (lD (.cells 31
  10 10 (.node (.ptr 61 0) (.node (nI 1) (.node (nI 0) (lA .nil 20) (fA 21)) (.node (.bool false) (lA .nilfn 20) (fA 21))) (.node (nI 1) (.node .nilsl (lA .nil 20) (fA 21)) (lA
  .nilsl 21))) true false) 17) (fD 18))) (.node .dead (fD 19) (.node (.cells 114 7 7 (.node (.sl 84 0 0 8 (.u 84 0)) (.node (.sl 82 0 0 8 (.u 82 0)) (lA (nU 0) 21) (lA (nU 0) 21))
  (.node (.map 60) (lA (nU 0) 21) (lA (nU 0) 21))) true false) (lD o1 17) (fD 18)))))) (.node .dead (.node .dead (.node .dead (.node .dead (.node .dead (.node .dead (fD 17) (lD
  (.cells 114 7 7 (.node (.sl 967 0 0 384 (.u 967 0)) (.node (.sl 965 0 0 384 (.u 965 0)) (lA (nU 361) 21) (lA (nU 0) 21)) (.node (.map 191) (lA (nU 0) 21) (lA (nU 0) 21))) true
  false) 16)) (.node .dead (fD 17) (.node .dead (.node .dead (.node .dead (fD 14) (.node .dead (lD o17 12) (fD 13))) (fD 15)) (fD 16)))) (fD 19)) (.node .dead (.node .dead (.node
  .dead (fD 17) (.node .dead (fD 16) (.node .dead (fD 15) (lD (.cells 31 10 10 (.node (.ptr 192 0) (.node (nI 1) (.node (nI 362) (lA .nil 20) (fA 21)) (.node (.bool true) (lA (.fn
  (.func 72) [] [(.ptr 2655 0), (.ptr 1880 0)]) 20) (fA 21))) (.node (nI 2) (.node .nilsl (lA .nil 20) (fA 21)) (lA .nilsl 21))) true false) 14)))) (.node .dead (.node .dead (fD 16)
  (.node .dead (fD 15) (.node .dead (.node .dead (fD 13) (.node .dead (lD (.cells 43 1 361 (.node (nU 5929342154728227142) (.node (nU 3072) (.node (nU 18446744073709548543) (.node
  (nU 0) (.node (nU 0) (.node (nU 0) (.node (nU 0) (.node (nU 0) (lA (nU 0) 15) (fA 16)) (.node (nU 0) (lA (nU 0) 15) (fA 16))) (.node (nU 0) (.node (nU 0) (lA (nU 0) 15) (fA 16))
  (.node (nU 0) (lA (nU 0) 15) (fA 16)))) (.node (nU 0) (.node (nU 0) (.node (nU 0) (lA (nU 0) 15) (fA 16)) (.node (nU 0) (lA (nU 0) 15) (fA 16))) (.node (nU 0) (.node (nU 0) (lA (nU
  0) 15) (fA 16)) (lA (nU 0) 16)))) (.node (nU 0) (.node (nU 0) (.node (nU 0) (.node (nU 0) (lA (nU 0) 15) (fA 16)) (.node (nU 0) (lA (nU 0) 15) (fA 16))) (.node (nU 0) (.node (nU 0)
  (lA (nU 0) 15) (fA 16)) (.node (nU 0) (lA (nU 0) 15) (fA 16)))) (.node (nU 0) (.node (nU 0) (.node (nU 0) (lA (nU 0) 15) (fA 16)) (.node (nU 0) (lA (nU 0) 15) (fA 16))) (.node (nU
  0) (.node (nU 0) (lA (nU 0) 15) (fA 16)) (lA (nU 0) 16))))) (.node (nU 0) (.node (nU 0) (.node (nU 0) (.node (nU 0) (.node (nU 0) (lA (nU 0) 15) (fA 16)) (.node (nU 0) (lA (nU 0)
  15) (fA 16))) (.node (nU 0) (.node (nU 0) (lA (nU 0) 15) (fA 16)) (.node (nU 0) (lA (nU 0) 15) (fA 16)))) (.node (nU 0) (.node (nU 0) (.node (nU 0) (lA (nU 0) 15) (fA 16)) (.node
  (nU 0) (lA (nU 0) 15) (fA 16))) (.node (nU 0) (.node (nU 0) (lA (nU 0) 15) (fA 16)) (lA (nU 0) 16)))) (.node (nU 0) (.node (nU 0) (.node (nU 0) (.node (nU 0) (lA (nU 0) 15) (fA
  16)) (.node (nU 0) (lA (nU 0) 15) (fA 16))) (.node (nU 0) (.node (nU 0) (lA (nU 0) 15) (fA 16)) (lA (nU 0) 16))) (.node (nU 0) (.node (nU 0) (.node (nU 0) (lA (nU 0) 15) (fA 16))
  (.node (nU 0) (lA (nU 0) 15) (fA 16))) (.node (nU 0) (.node (nU 0) (lA (nU 0) 15) (fA 16)) (lA (nU 0) 16)))))) (.node (nU 0) (.node (nU 0) (.node (nU 0) (.node (nU 0) (.node (nU 0)
  (.node (nU 1) (lA (nU 0) 15) (fA 16)) (.node (nU 0) (lA (nU 0) 15) (fA 16))) (.node (nU 0) (.node (nU 0) (lA (nU 0) 15) (fA 16)) (.node (nU 0) (lA (nU 0) 15) (fA 16)))) (.node (nU
  0) (.node (nU 0) (.node (nU 0) (lA (nU 0) 15) (fA 16)) (.node (nU 0) (lA (nU 0) 15) (fA 16))) (.node (nU 0) (.node (nU 0) (lA (nU 0) 15) (fA 16)) (lA (nU 0) 16)))) (.node (nU 0)
  (.node (nU 0) (.node (nU 0) (.node (nU 0) (lA (nU 0) 15) (fA 16)) (.node (nU 0) (lA (nU 0) 15) (fA 16))) (.node (nU 0) (.node (nU 0) (lA (nU 0) 15) (fA 16)) (lA (nU 0) 16))) (.node
  (nU 0) (.node (nU 0) (.node (nU 0) (lA (nU 0) 15) (fA 16)) (.node (nU 0) (lA (nU 0) 15) (fA 16))) (.node (nU 0) (.node (nU 0) (lA (nU 0) 15) (fA 16)) (lA (nU 0) 16))))) (.node (nU
  0) (.node (nU 0) (.node (nU 0) (.node (nU 0) (.node (nU 0) (lA (nU 0) 15) (fA 16)) (.node (nU 0) (lA (nU 0) 15) (fA 16))) (.node (nU 0) (.node (nU 0) (lA (nU 0) 15) (fA 16)) (.node
  (nU 0) (lA (nU 0) 15) (fA 16)))) (.node (nU 0) (.node (nU 0) (.node (nU 0) (lA (nU 0) 15) (fA 16)) (.node (nU 0) (lA (nU 0) 15) (fA 16))) (.node (nU 0) (.node (nU 0) (lA (nU 0) 15)
  (fA 16)) (lA (nU 0) 16)))) (.node (nU 0) (.node (nU 0) (.node (nU 0) (.node (nU 0) (lA (nU 0) 15) (fA 16)) (.node (nU 0) (lA (nU 0) 15) (fA 16))) (.node (nU 0) (.node (nU 0) (lA
  (nU 0) 15) (fA 16)) (lA (nU 0) 16))) (.node (nU 0) (.node (nU 0) (.node (nU 0) (lA (nU 0) 15) (fA 16)) (.node (nU 0) (lA (nU 0) 15) (fA 16))) (.node (nU 0) (.node (nU 0) (lA (nU 0)
  15) (fA 16)) (lA (nU 0) 16))))))) (.node (nU 1088) (.node (nU 0) (.node (nU 0) (.node (nU 0) (.node (nU 0) (.node (nU 0) (.node (nU 3) (lA (nU 0) 15) (fA 16)) (.node (nU 0) (lA (nU
  0) 15) (fA 16))) (.node (nU 0) (.node (nU 0) (lA (nU 0) 15) (fA 16)) (.node (nU 0) (lA (nU 0) 15) (fA 16)))) (.node (nU 0) (.node (nU 0) (.node (nU 0) (lA (nU 0) 15) (fA 16))
  (.node (nU 0) (lA (nU 0) 15) (fA 16))) (.node (nU 0) (.node (nU 0) (lA (nU 0) 15) (fA 16)) (lA (nU 0) 16)))) (.node (nU 0) (.node (nU 0) (.node (nU 0) (.node (nU
  5495893775785918464) (lA (nU 0) 15) (fA 16)) (.node (nU 0) (lA (nU 0) 15) (fA 16))) (.node (nU 0) (.node (nU 0) (lA (nU 0) 15) (fA 16)) (.node (nU 0) (lA (nU 0) 15) (fA 16))))
  (.node (nU 0) (.node (nU 0) (.node (nU 0) (lA (nU 0) 15) (fA 16)) (.node (nU 0) (lA (nU 0) 15) (fA 16))) (.node (nU 0) (.node (nU 0) (lA (nU 0) 15) (fA 16)) (lA (nU 0) 16)))))
  (.node (nU 0) (.node (nU 0) (.node (nU 0) (.node (nU 0) (.node (nU 0) (lA (nU 0) 15) (fA 16)) (.node (nU 0) (lA (nU 0) 15) (fA 16))) (.node (nU 0) (.node (nU 0) (lA (nU 0) 15) (fA
  16)) (.node (nU 0) (lA (nU 0) 15) (fA 16)))) (.node (nU 0) (.node (nU 0) (.node (nU 0) (lA (nU 0) 15) (fA 16)) (.node (nU 0) (lA (nU 0) 15) (fA 16))) (.node (nU 0) (.node (nU 0)
  (lA (nU 0) 15) (fA 16)) (lA (nU 0) 16)))) (.node (nU 0) (.node (nU 0) (.node (nU 0) (.node (nU 1088) (lA (nU 0) 15) (fA 16)) (.node (nU 0) (lA (nU 0) 15) (fA 16))) (.node (nU 0)
  (.node (nU 0) (lA (nU 0) 15) (fA 16)) (lA (nU 0) 16))) (.node (nU 0) (.node (nU 0) (.node (nU 0) (lA (nU 0) 15) (fA 16)) (.node (nU 0) (lA (nU 0) 15) (fA 16))) (.node (nU 0) (.node
  (nU 0) (lA (nU 0) 15) (fA 16)) (lA (nU 0) 16)))))) (.node (nU 0) (.node (nU 0) (.node (nU 0) (.node (nU 0) (.node (nU 0) (.node (nU 0) (lA (nU 0) 15) (fA 16)) (.node (nU 0) (lA (nU
  0) 15) (fA 16))) (.node (nU 0) (.node (nU 0) (lA (nU 0) 15) (fA 16)) (.node (nU 0) (lA (nU 0) 15) (fA 16)))) (.node (nU 0) (.node (nU 0) (.node (nU 0) (lA (nU 0) 15) (fA 16))
  (.node (nU 0) (lA (nU 0) 15) (fA 16))) (.node (nU 0) (.node (nU 0) (lA (nU 0) 15) (fA 16)) (lA (nU 0) 16)))) (.node (nU 0) (.node (nU 0) (.node (nU 0) (.node (nU 0) (lA (nU 0) 15)
  (fA 16)) (.node (nU 0) (lA (nU 0) 15) (fA 16))) (.node (nU 0) (.node (nU 0) (lA (nU 0) 15) (fA 16)) (lA (nU 0) 16))) (.node (nU 0) (.node (nU 0) (.node (nU 0) (lA (nU 0) 15) (fA
  16)) (.node (nU 0) (lA (nU 0) 15) (fA 16))) (.node (nU 0) (.node (nU 0) (lA (nU 0) 15) (fA 16)) (lA (nU 0) 16))))) (.node (nU 0) (.node (nU 0) (.node (nU 0) (.node (nU 0) (.node
  (nU 0) (lA (nU 0) 15) (fA 16)) (.node (nU 0) (lA (nU 0) 15) (fA 16))) (.node (nU 0) (.node (nU 0) (lA (nU 0) 15) (fA 16)) (.node (nU 0) (lA (nU 0) 15) (fA 16)))) (.node (nU 0)
  (.node (nU 0) (.node (nU 0) (lA (nU 0) 15) (fA 16)) (.node (nU 0) (lA (nU 0) 15) (fA 16))) (.node (nU 0) (.node (nU 0) (lA (nU 0) 15) (fA 16)) (lA (nU 0) 16)))) (.node (nU 0)
  (.node (nU 0) (.node (nU 0) (.node (nU 0) (lA (nU 0) 15) (fA 16)) (.node (nU 0) (lA (nU 0) 15) (fA 16))) (.node (nU 0) (.node (nU 0) (lA (nU 0) 15) (fA 16)) (lA (nU 0) 16))) (.node
  (nU 0) (.node (nU 0) (.node (nU 0) (lA (nU 0) 15) (fA 16)) (.node (nU 0) (lA (nU 0) 15) (fA 16))) (.node (nU 0) (.node (nU 0) (lA (nU 0) 15) (fA 16)) (lA (nU 0) 16)))))))) false
  false) 11) (fD 12))) (fD 14)))) (fD 17))) (.node .dead (.node .dead (fD 17) (.node .dead (.node .dead (fD 15) (.node .dead (fD 14) (lD (.cells 22 1 1 (lA (.ptr 968 0) 23) true
  false) 13))) (fD 16))) (fD 18)))) (.node .dead (.node .dead (.node .dead (fD 18) (lD o7 17)) (.node .dead (lD (.cells 43 1 8 (.node (nU 0) (.node (nU 0) (.node (nU 0) (lA (nU 0)
  20) (fA 21)) (lA (nU 0) 21)) (.node (nU 0) (lA (nU 0) 21) (lA (nU 0) 21))) false false) 17) (fD 18))) (.node .dead (fD 19) (lD (.map [] 0) 18)))) (.node o1 (.node .dead (.node
  .dead (fD 19) (.node .dead (.node (.cells 43 1 8 (.node (nU 0) (.node (nU 0) (.node (nU 0) (lA (nU 0) 20) (fA 21)) (lA (nU 0) 21)) (.node (nU 0) (lA (nU 0) 21) (lA (nU 0) 21)))
  false false) (fD 17) (.node .dead (.node .dead (fD 15) (.node .dead (fD 14) (lD (.cells 106 12 12 (.node (nI 1) (.node (nI 0) (.node (nI 0) (lA (.str (bs [])) 20) (lA (nI 0) 20))
  (.node (nU 0) (lA (nI 0) 20) (fA 21))) (.node (nI 0) (.node (nU 0) (lA (nU 0) 20) (fA 21)) (.node (nI 0) (lA .nilsl 20) (fA 21)))) true false) 13))) (fD 16))) (fD 18))) (.node
  .dead (fD 19) (.node .dead (.node .dead (fD 17) (.node .dead (.node .dead (fD 15) (.node .dead (fD 14) (lD (.cells 235 12 12 (.node (.ptr 192 0) (.node (.sl 2654 361 0 23 (.u 2654
  361)) (.node (.fn (.func 118) [(.ptr 1882 0)] []) (lA .nilsl 20) (lA (nI 0) 20)) (.node (nI 0) (lA .nilsl 20) (fA 21))) (.node (.sl 5544 0 0 361 (.u 5544 0)) (.node (.bool false)
  (lA .nilsl 20) (fA 21)) (.node .nilsl (lA (nI 0) 20) (fA 21)))) true false) 13))) (fD 16))) (fD 18)))) (.node .dead (fD 20) (.node .dead (fD 19) (.node .dead (.node .dead (fD 17)
  (.node .dead (.node .dead (.node .dead (fD 14) (.node .dead (lD o19 12) (fD 13))) (fD 15)) (fD 16))) (fD 18))))))), 5546⟩,
  [.code (codeAt Tryz.f58 [1, 0, 1, 0, 0, 1]), .lp
  (codeAt Tryz.f58 [1, 0, 1, 0, 0]), .blk 0, .code (codeAt Tryz.f58 [1, 1])]⟩
noncomputable def o24 : Fr :=
  ⟨122, 8, [], .normal, none, .run, (.node (.ptr 1882 0) (.node undefV (lU (.ptr 1882 0) 21) (lU (.ptr 1882 2) 21)) (.node .nilsl (lU (.ptr 1882 0) 21) (lU (.sl 5728 0 0 384 (.u 5728
  0)) 21))), [.reg (opsAt Tryz.f122 [1, 0]) ((opsAt Tryz.f122 [1, 0]).toList.drop 4), .code (codeAt Tryz.f122 [1, 1])]⟩
noncomputable def o29 : Fr :=
  ⟨118, 57, [], .normal, none, .run, (.node (.ptr 1882 0) (.node undefV (.node (nI 0) (.node (.ptr 1882 0) (.node (.ptr 2654 383) (lU (.sl 5728 0 0 384 (.u 5728 0)) 18) (fU 19))
  (.node (.ptr 1882 0) (lU (.ptr 1882 0) 18) (fU 19))) (.node (.ptr 1882 0) (.node (nI 0) (lU (.sl 2654 383 0 1 (.u 2654 383)) 18) (fU 19)) (.node (.ptr 1882 2) (lU (.ptr 1882 1) 18)
  (fU 19)))) (.node (nI 0) (.node (.ptr 1882 0) (.node (.tup [(nU 0), (nI 0)]) (lU (.ptr 1882 0) 18) (lU (.ptr 1882 0) 18)) (.node (.ptr 1882 0) (lU (.ptr 1882 0) 18) (fU 19)))
  (.node (.ptr 1882 1) (.node (.bool false) (lU (.ptr 1882 0) 18) (fU 19)) (.node (nU 0) (lU (nI 0) 18) (fU 19))))) (.node (.bool false) (.node (nU 0) (.node (.ptr 1882 0) (.node (nU
  3064) (lU (.ptr 1882 0) 18) (lU (.ptr 1882 0) 18)) (.node (.ptr 1882 0) (lU (.ptr 1882 1) 18) (fU 19))) (.node (.ptr 1882 0) (.node (nI 0) (lU (.sl 2654 383 1 0 (.u 2654 384)) 18)
  (fU 19)) (.node (.sl 5720 0 0 383 (.u 5720 0)) (lU (.sl 2654 383 1 0 (.u 2654 384)) 18) (fU 19)))) (.node (.tup [(nU 0), (nI 0)]) (.node (.ptr 192 0) (.node (nU 0) (lU (.ptr 1882
  1) 18) (fU 19)) (.node (.ptr 1882 0) (lU (.ptr 1882 0) 18) (fU 19))) (.node (.sl 2654 383 0 1 (.u 2654 383)) (.node undefV (lU (.ptr 1882 2) 18) (fU 19)) (.node (.sl 5727 0 0 1 (.k
  1)) (lU (.bool false) 18) (fU 19)))))), [.reg (opsAt Tryz.f118 [1, 1, 1, 1, 1, 0]) ((opsAt Tryz.f118 [1, 1, 1, 1, 1, 0]).toList.drop 2), .code (codeAt Tryz.f118 [1, 1, 1, 1, 1,
  1])]⟩
noncomputable def o26 : Fr :=
  ⟨73, 34, [], .normal, none, .run, (.node (.ptr 1882 0) (.node undefV (.node (nI 0) (.node (.ptr 1882 0) (lU (.ptr 1882 0) 19) (fU 20)) (lU (.bool true) 20)) (.node (.bool true)
  (.node (.ptr 1882 4) (lU (.ptr 1882 3) 19) (fU 20)) (lU (.ptr 1882 0) 20))) (.node (.bool false) (.node (.ptr 1882 0) (.node (.ptr 1882 0) (lU (.ptr 1882 0) 19) (fU 20)) (fU 21))
  (.node (.bool false) (.node (.bool false) (lU (.fn (.func 118) [(.ptr 1882 0)] []) 19) (fU 20)) (lU (.ptr 1882 0) 20)))), [.reg (opsAt Tryz.f73 [1, 1, 0, 1, 0]) ((opsAt Tryz.f73
  [1, 1, 0, 1, 0]).toList.drop 6), .code (codeAt Tryz.f73 [1, 1, 1])]⟩
noncomputable def o23 : Fr :=
  ⟨72, 50, [], .normal, none, .run, (.node (.ptr 2655 0) (.node (.ptr 1880 0) (lU (nI 0) 21) (.node undefV (lU (.ptr 1882 0) 20) (fU 21))) (lU (.bool false) 22)), [.reg (opsAt
  Tryz.f72 [1, 0]) ((opsAt Tryz.f72 [1, 0]).toList.drop 1), .code (codeAt Tryz.f72 [1, 1])]⟩
noncomputable def o27 : Fr :=
  ⟨39, 33, [], .normal, none, .run, (.node (.ptr 968 0) (.node (.agg [(nI 7), (nI 0), (nI 0), (nU 0), (nU 0), (nI 0), (.str (bs [])), (nU 0), (nI 0), .nilsl]) (.node undefV (.node
  (.ptr 968 0) (fU 20) (lU (.ptr 968 0) 19)) (lU (.bool false) 20)) (.node undefV (.node (.ptr 968 2) (fU 20) (lU (.fn (.func 72) [] [(.ptr 2655 0), (.ptr 1880 0)]) 19)) (.node
  undefV (lU (.ptr 5725 0) 19) (fU 20)))) (.node (.ptr 5725 0) (.node (.ptr 5726 0) (.node (.ptr 968 0) (fU 20) (lU (.ptr 968 9) 19)) (.node (.bool false) (lU (.ptr 5725 0) 19) (fU
  20))) (.node (nI 0) (.node (nI 2) (lU (.bool false) 19) (fU 20)) (.node undefV (lU (.ptr 968 0) 19) (fU 20))))), [.reg (opsAt Tryz.f39 [1, 1, 0]) ((opsAt Tryz.f39 [1, 1,
  0]).toList.drop 6), .code (codeAt Tryz.f39 [1, 1, 1])]⟩
noncomputable def o30 : Fr :=
  ⟨4, 58, [], .normal, none, .run, (.node (.ptr 968 0) (.node (.agg [(nI 7), (nI 0), (nI 0), (nU 0), (nU 0), (nI 0), (.str (bs [])), (nU 0), (nI 0), .nilsl]) (.node (.ptr 5722 0)
  (.node (.bool true) (.node (.ptr 968 0) (lU (.ptr 968 0) 18) (fU 19)) (.node (nI 7) (lU (.agg [(nI 7), (nI 0), (nI 0), (nU 0), (nU 0), (nI 0), (.str (bs [])), (nU 0), (nI 0),
  .nilsl]) 18) (fU 19))) (.node (.bool false) (.node undefV (lU (nI 7) 18) (fU 19)) (lU (.bool true) 19))) (.node (nI 0) (.node undefV (.node (.bool false) (lU (nI 384) 18) (fU 19))
  (lU (.fn (.func 39) [] []) 19)) (.node (.ptr 968 0) (.node (.map 5724) (lU (.fn (.func 39) [] []) 18) (fU 19)) (fU 20)))) (.node undefV (.node (.ptr 5723 0) (.node (.ptr 5725 0)
  (.node (.ptr 192 0) (lU (.ptr 968 3) 18) (fU 19)) (lU (.tup [(.fn (.func 39) [] []), (.bool true)]) 19)) (.node (.bool false) (.node (.tup [(.fn (.func 39) [] []), (.bool true)])
  (lU (.agg [(nI 384), (nI 7), (nI 0), (nI 0), (nI 0), (nI 0), (.bool false), (nI 0), (.str (bs [])), .nilsl, (.bool false), (nI 0), (nI 0)]) 18) (fU 19)) (lU (.bool false) 19)))
  (.node (.fn (.func 39) [] []) (.node (.ptr 968 0) (.node (.bool false) (lU (.ptr 5722 0) 18) (fU 19)) (lU (.bool true) 19)) (.node (.ptr 968 0) (.node (.ptr 5722 0) (lU (.ptr 968
  0) 18) (fU 19)) (lU (.ptr 968 0) 19))))), [.reg (opsAt Tryz.f4 [1, 1, 1, 1, 1, 0, 0]) ((opsAt Tryz.f4 [1, 1, 1, 1, 1, 0, 0]).toList.drop 3), .code (codeAt Tryz.f4 [1, 1, 1, 1, 1,
  0, 1]), .code (codeAt Tryz.f4 [1, 1, 1, 1, 1, 1])]⟩
noncomputable def o28 : Fr :=
  ⟨58, 27, [], .normal, none, .run, (.node (.ptr 968 0) (.node (nI 3136) (.node undefV (.node (.ptr 5721 0) (lU (.ptr 968 0) 19) (lU (.ptr 5721 10) 19)) (.node (.bool true) (lU (nI
  0) 19) (fU 20))) (.node (.bool false) (.node (nI 383) (lU (.tup [(.agg [(nI 383), (nI 7), (nI 2), (nI 0), (nI 0), (nI 0), (.bool false), (nI 0), (.str (bs [])), .nilsl, (.bool
  false), (nI 0), (nI 0)]), (nI 0)]) 19) (fU 20)) (.node (nI 383) (lU (.bool false) 19) (fU 20)))) (.node undefV (.node (.ptr 2657 0) (.node (nI 0) (lU (.agg [(nI 7), (nI 0), (nI 0),
  (nU 0), (nU 0), (nI 0), (.str (bs [])), (nU 0), (nI 0), .nilsl]) 19) (lU (.bool false) 19)) (.node (nI 382) (lU (nI 0) 19) (fU 20))) (.node (nI 383) (.node (nI 3136) (lU (.agg [(nI
  383), (nI 7), (nI 2), (nI 0), (nI 0), (nI 0), (.bool false), (nI 0), (.str (bs [])), .nilsl, (.bool false), (nI 0), (nI 0)]) 19) (fU 20)) (lU (.tup [(.agg [(nI 383), (nI 7), (nI
  2), (nI 0), (nI 0), (nI 0), (.bool false), (nI 0), (.str (bs [])), .nilsl, (.bool false), (nI 0), (nI 0)]), (nI 0)]) 20)))), [.reg (opsAt Tryz.f58 [1, 0, 1, 0, 0, 1, 0, 0, 0])
  ((opsAt Tryz.f58 [1, 0, 1, 0, 0, 1, 0, 0, 0]).toList.drop 2), .code (codeAt Tryz.f58 [1, 0, 1, 0, 0, 1, 0, 0, 1]), .blk 1, .code (codeAt Tryz.f58 [1, 0, 1, 0, 0, 1, 1]), .lp
  (codeAt Tryz.f58 [1, 0, 1, 0, 0]), .blk 0, .code (codeAt Tryz.f58 [1, 1])]⟩
noncomputable def o21 : Ob :=
  (.cells 39 13 13 (.node (nI 383) (.node (nI 7) (.node (nI 0) (lA (nI 0) 20) (lA (nI 0) 20)) (.node (nI 0) (lA .nilsl 20) (fA 21))) (.node (nI 2) (.node (nI 0) (lA (.str (bs []))
  20) (lA (nI 0) 20)) (.node (.bool false) (lA (.bool false) 20) (fA 21)))) true false)
noncomputable def o22 : Ob :=
  (.cells 39 13 13 (.node (nI 384) (.node (nI 7) (.node (nI 0) (lA (nI 0) 20) (lA (nI 0) 20)) (.node (nI 0) (lA .nilsl 20) (fA 21))) (.node (nI 0) (.node (nI 0) (lA (.str (bs []))
  20) (lA (nI 0) 20)) (.node (.bool false) (lA (.bool false) 20) (fA 21)))) true false)
noncomputable def o20 : Ob :=
  (.cells 31 10 10 (.node (.ptr 192 0) (.node (nI 1) (.node (nI 384) (lA .nil 20) (fA 21)) (.node (.bool true) (lA (.fn (.func 72) [] [(.ptr 2655 0), (.ptr 1880 0)]) 20) (fA 21)))
  (.node (nI 2) (.node .nilsl (lA .nil 20) (fA 21)) (lA .nilsl 21))) true false)
noncomputable def o25 : Ob :=
  (.cells 235 12 12 (.node (.ptr 192 0) (.node (.sl 2654 383 1 0 (.u 2654 384)) (.node (.fn (.func 118) [(.ptr 1882 0)] []) (lA .nilsl 20) (lA (nI 0) 20)) (.node (nI 0) (lA .nilsl
  20) (fA 21))) (.node (.sl 5728 0 0 384 (.u 5728 0)) (.node (.bool false) (lA .nilsl 20) (fA 21)) (.node .nilsl (lA (nI 0) 20) (fA 21)))) true false)
/-- where the run stands at the end of part 13 -/
noncomputable def s13 : St :=
  ⟨⟨170, 20, [], .normal, none,
  [o24,
    o29,
    o26,
    o23,
    o27,
    o30,
    o28,
    o18,
    o16,
    o6]⟩,
  .run,
  (.node (.sl 5728 0 0 384 (.u 5728 0)) (.node
  undefV (.node (.sl 5998 0 0 720 (.u 5998 0)) (.node (.sl 5728 0 0 384 (.u 5728 0)) (lU (.sl 5995 0 0 712 (.u 5995 0)) 19) (fU 20)) (lU (.ptr 5728 89) 20)) (.node (nU 0) (.node (nI
  90) (lU (.sl 5998 0 0 720 (.u 5998 0)) 19) (fU 20)) (lU (nU 0) 20))) (.node .nilsl (.node undefV (.node (nI 384) (lU (.sl 5997 0 0 8 (.k 8)) 19) (fU 20)) (lU (nU 0) 20)) (.node
  (.ptr 5997 0) (.node (.bool true) (lU (nI 90) 19) (fU 20)) (lU (.agg [(nB 0), (nB 0), (nB 0), (nB 0), (nB 0), (nB 0), (nB 0), (nB 0)]) 20)))),
  ⟨(.node (.cells 31 10 10 (.node
  .nil (.node (nI 0) (.node (nI 0) (lA .nil 20) (fA 21)) (.node (.bool false) (lA .nilfn 20) (fA 21))) (.node (nI 0) (.node .nilsl (lA .nil 20) (fA 21)) (lA .nilsl 21))) true false)
  (.node .dead (.node o1 (.node (.cells 5 1 64 (fB 24) true false) (.node .dead (.node .dead (.node .dead (fD 17) (lD (.map [] 0) 16)) (.node .dead (fD 17) (.node .dead (.node .dead
  (.node .dead (fD 14) (.node .dead (lD (.cells 167 1 1 (lA (.ptr 1882 0) 23) true false) 12) (.node .dead (lD (.cells 43 1 1 (lA (nU 0) 23) true false) 11) (fD 12)))) (fD 15)) (fD
  16)))) (fD 19)) (.node .dead (.node .dead (.node .dead (fD 17) (.node .dead (fD 16) (.node .dead (fD 15) (lD o15 14)))) (fD 18)) (fD 19))) (.node .dead (.node .dead (.node .dead
  (fD 18) (lD (.cells 99 3 3 (.node .nilsl (lA .nilsl 22) (lA (.bool false) 22)) false false) 17)) (.node .dead (.node .dead (fD 17) (.node .dead (.node .dead (fD 15) (.node .dead
  (fD 14) (lD (.cells 49 10 10 (.node (nI 5) (.node (nI 0) (.node (nU 0) (lA (nU 0) 20) (fA 21)) (.node (nI 0) (lA .nilsl 20) (fA 21))) (.node (nI 0) (.node (nU 0) (lA (nI 0) 20) (fA
  21)) (lA (.str (bs [])) 21))) true false) 13))) (fD 16))) (fD 18))) (.node .dead (fD 19) (.node (.cells 5 1 64 (fB 24) true false) (.node .dead (fD 17) (.node .dead (.node .dead
  (.node .dead (fD 14) (.node .dead (fD 13) (.node .dead (lD o1 11) (fD 12)))) (fD 15)) (fD 16))) (fD 18))))) (.node .dead (.node .dead (.node .dead (.node (.cells 5 1 64 (fB 24)
  true false) (fD 18) (.node .dead (fD 17) (.node .dead (.node .dead (.node .dead (fD 14) (.node .dead (lD o1 12) (fD 13))) (fD 15)) (fD 16)))) (.node .dead (.node .dead (fD 17)
  (.node .dead (.node .dead (fD 15) (.node .dead (fD 14) (lD (.cells 106 12 12 (.node (nI 1) (.node (nI 0) (.node (nI 0) (lA (.str (bs [])) 20) (lA (nI 0) 20)) (.node (nU 0) (lA (nI
  0) 20) (fA 21))) (.node (nI 0) (.node (nU 0) (lA (nU 0) 20) (fA 21)) (.node (nI 0) (lA .nilsl 20) (fA 21)))) true false) 13))) (fD 16))) (fD 18))) (.node .dead (fD 19) (.node .dead
  (.node .dead (fD 17) (.node .dead (.node .dead (.node .dead (fD 14) (.node .dead (fD 13) (.node .dead (lD o21 11) (fD 12)))) (fD 15)) (fD 16))) (fD 18)))) (.node .dead (.node .dead
  (.node .dead (.node .dead (fD 17) (.node .dead (fD 16) (.node .dead (fD 15) (lD o15 14)))) (fD 18)) (.node .dead (lD (.cells 31 10 10 (.node (.ptr 61 0) (.node (nI 1) (.node (nI 0)
  (lA .nil 20) (fA 21)) (.node (.bool false) (lA .nilfn 20) (fA 21))) (.node (nI 1) (.node .nilsl (lA .nil 20) (fA 21)) (lA .nilsl 21))) true false) 17) (fD 18))) (.node .dead (.node
  .dead (fD 18) (.node .dead (fD 17) (.node .dead (.node .dead (fD 15) (.node .dead (fD 14) (.node .dead (fD 13) (.node .dead (lD (.cells 147 8 8 (.node (nB 0) (.node (nB 0) (.node
  (nB 0) (lA (nB 0) 20) (fA 21)) (lA (nB 0) 21)) (.node (nB 0) (lA (nB 0) 21) (lA (nB 0) 21))) true false) 11) (fD 12))))) (fD 16)))) (.node (.cells 114 7 7 (.node (.sl 84 0 0 8 (.u
  84 0)) (.node (.sl 82 0 0 8 (.u 82 0)) (lA (nU 0) 21) (lA (nU 0) 21)) (.node (.map 60) (lA (nU 0) 21) (lA (nU 0) 21))) true false) (.node o1 (fD 17) (.node .dead (.node .dead
  (.node .dead (fD 14) (.node .dead (fD 13) (.node .dead (lD o22 11) (fD 12)))) (fD 15)) (fD 16))) (fD 18)))))) (.node .dead (.node .dead (.node .dead (.node .dead (.node .dead
  (.node .dead (fD 17) (lD (.cells 114 7 7 (.node (.sl 967 0 0 384 (.u 967 0)) (.node (.sl 965 0 0 384 (.u 965 0)) (lA (nU 384) 21) (lA (nU 0) 21)) (.node (.map 191) (lA (nU 0) 21)
  (lA (nU 0) 21))) true false) 16)) (.node .dead (fD 17) (.node .dead (.node .dead (.node .dead (fD 14) (.node .dead (lD o17 12) (.node .dead (lD o15 11) (fD 12)))) (fD 15)) (fD
  16)))) (fD 19)) (.node .dead (.node .dead (.node .dead (fD 17) (.node .dead (fD 16) (.node .dead (fD 15) (lD o20 14)))) (fD 18)) (.node .dead (.node .dead (fD 17) (.node .dead
  (.node .dead (fD 15) (.node .dead (fD 14) (lD (.cells 22 1 1 (lA (.ptr 968 0) 23) true false) 13))) (fD 16))) (fD 18)))) (.node .dead (.node .dead (.node .dead (fD 18) (lD o7 17))
  (.node .dead (lD (.cells 43 1 8 (.node (nU 0) (.node (nU 0) (.node (nU 0) (lA (nU 0) 20) (fA 21)) (lA (nU 0) 21)) (.node (nU 0) (lA (nU 0) 21) (lA (nU 0) 21))) false false) 17) (fD
  18))) (.node .dead (fD 19) (.node (.map [] 0) (.node .dead (fD 17) (.node .dead (.node .dead (.node .dead (fD 14) (.node .dead (fD 13) (.node .dead (lD (.map [⟨(nI 1), (.fn (.func
  33) [] []), 0⟩, ⟨(nI 2), (.fn (.func 34) [] []), 1⟩, ⟨(nI 3), (.fn (.func 35) [] []), 2⟩, ⟨(nI 4), (.fn (.func 36) [] []), 3⟩, ⟨(nI 5), (.fn (.func 37) [] []), 4⟩, ⟨(nI 6), (.fn
  (.func 38) [] []), 5⟩, ⟨(nI 7), (.fn (.func 39) [] []), 6⟩] 7) 11) (fD 12)))) (fD 15)) (fD 16))) (fD 18))))) (.node o1 (.node .dead (.node .dead (fD 19) (.node .dead (.node (.cells
  43 1 8 (.node (nU 0) (.node (nU 0) (.node (nU 0) (lA (nU 0) 20) (fA 21)) (lA (nU 0) 21)) (.node (nU 0) (lA (nU 0) 21) (lA (nU 0) 21))) false false) (fD 17) (.node .dead (.node
  .dead (fD 15) (.node .dead (fD 14) (lD (.cells 106 12 12 (.node (nI 1) (.node (nI 0) (.node (nI 0) (lA (.str (bs [])) 20) (lA (nI 0) 20)) (.node (nU 0) (lA (nI 0) 20) (fA 21)))
  (.node (nI 0) (.node (nU 0) (lA (nU 0) 20) (fA 21)) (.node (nI 0) (lA .nilsl 20) (fA 21)))) true false) 13))) (fD 16))) (fD 18))) (.node .dead (fD 19) (.node .dead (.node .dead (fD
  17) (.node .dead (.node .dead (.node .dead (fD 14) (.node .dead (fD 13) (.node .dead (lD (.cells 49 10 10 (.node (nI 7) (.node (nI 0) (.node (nU 0) (lA (nU 0) 20) (fA 21)) (.node
  (nI 0) (lA .nilsl 20) (fA 21))) (.node (nI 0) (.node (nU 0) (lA (nI 0) 20) (fA 21)) (lA (.str (bs [])) 21))) true false) 11) (fD 12)))) (.node .dead (fD 14) (lD o25 13))) (fD 16)))
  (fD 18)))) (.node .dead (fD 20) (.node .dead (.node .dead (fD 18) (.node .dead (fD 17) (.node .dead (.node .dead (fD 15) (.node .dead (fD 14) (.node .dead (fD 13) (.node .dead (lD
  (.cells 5 1 720 (.node (nB 70) (.node (nB 65) (.node (nB 84) (.node (nB 82) (.node (nB 0) (.node (nB 255) (.node (nB 0) (.node (nB 0) (.node (nB 0) (lA (nB 0) 14) (fA 15)) (.node
  (nB 0) (lA (nB 0) 14) (fA 15))) (.node (nB 0) (.node (nB 0) (lA (nB 0) 14) (fA 15)) (.node (nB 0) (lA (nB 0) 14) (fA 15)))) (.node (nB 0) (.node (nB 0) (.node (nB 0) (lA (nB 0) 14)
  (fA 15)) (.node (nB 0) (lA (nB 0) 14) (fA 15))) (.node (nB 0) (.node (nB 0) (lA (nB 0) 14) (fA 15)) (lA (nB 0) 15)))) (.node (nB 0) (.node (nB 0) (.node (nB 0) (.node (nB 0) (lA
  (nB 0) 14) (fA 15)) (.node (nB 0) (lA (nB 0) 14) (fA 15))) (.node (nB 0) (.node (nB 0) (lA (nB 0) 14) (fA 15)) (.node (nB 0) (lA (nB 0) 14) (fA 15)))) (.node (nB 0) (.node (nB 0)
  (.node (nB 0) (lA (nB 0) 14) (fA 15)) (.node (nB 0) (lA (nB 0) 14) (fA 15))) (.node (nB 0) (.node (nB 0) (lA (nB 0) 14) (fA 15)) (lA (nB 0) 15))))) (.node (nB 0) (.node (nB 0)
  (.node (nB 0) (.node (nB 0) (.node (nB 0) (lA (nB 0) 14) (fA 15)) (.node (nB 0) (lA (nB 0) 14) (fA 15))) (.node (nB 0) (.node (nB 0) (lA (nB 0) 14) (fA 15)) (.node (nB 0) (lA (nB
  0) 14) (fA 15)))) (.node (nB 0) (.node (nB 0) (.node (nB 0) (lA (nB 0) 14) (fA 15)) (.node (nB 0) (lA (nB 0) 14) (fA 15))) (.node (nB 0) (.node (nB 0) (lA (nB 0) 14) (fA 15)) (lA
  (nB 0) 15)))) (.node (nB 0) (.node (nB 0) (.node (nB 0) (.node (nB 0) (lA (nB 0) 14) (fA 15)) (.node (nB 0) (lA (nB 0) 14) (fA 15))) (.node (nB 0) (.node (nB 0) (lA (nB 0) 14) (fA
  15)) (lA (nB 0) 15))) (.node (nB 0) (.node (nB 0) (.node (nB 0) (lA (nB 0) 14) (fA 15)) (.node (nB 0) (lA (nB 0) 14) (fA 15))) (.node (nB 0) (.node (nB 0) (lA (nB 0) 14) (fA 15))
  (lA (nB 0) 15)))))) (.node (nB 0) (.node (nB 0) (.node (nB 0) (.node (nB 0) (.node (nB 0) (.node (nB 0) (lA (nB 0) 14) (fA 15)) (.node (nB 0) (lA (nB 0) 14) (fA 15))) (.node (nB 0)
  (.node (nB 0) (lA (nB 0) 14) (fA 15)) (.node (nB 0) (lA (nB 0) 14) (fA 15)))) (.node (nB 0) (.node (nB 0) (.node (nB 0) (lA (nB 0) 14) (fA 15)) (.node (nB 0) (lA (nB 0) 14) (fA
  15))) (.node (nB 0) (.node (nB 0) (lA (nB 0) 14) (fA 15)) (lA (nB 0) 15)))) (.node (nB 0) (.node (nB 0) (.node (nB 0) (.node (nB 0) (lA (nB 0) 14) (fA 15)) (.node (nB 0) (lA (nB 0)
  14) (fA 15))) (.node (nB 0) (.node (nB 0) (lA (nB 0) 14) (fA 15)) (lA (nB 0) 15))) (.node (nB 0) (.node (nB 0) (.node (nB 0) (lA (nB 0) 14) (fA 15)) (.node (nB 0) (lA (nB 0) 14)
  (fA 15))) (.node (nB 0) (.node (nB 0) (lA (nB 0) 14) (fA 15)) (lA (nB 0) 15))))) (.node (nB 255) (.node (nB 0) (.node (nB 0) (.node (nB 0) (.node (nB 0) (lA (nB 0) 14) (fA 15))
  (.node (nB 0) (lA (nB 0) 14) (fA 15))) (.node (nB 0) (.node (nB 0) (lA (nB 0) 14) (fA 15)) (.node (nB 0) (lA (nB 0) 14) (fA 15)))) (.node (nB 0) (.node (nB 0) (.node (nB 0) (lA (nB
  0) 14) (fA 15)) (.node (nB 0) (lA (nB 0) 14) (fA 15))) (.node (nB 0) (.node (nB 0) (lA (nB 0) 14) (fA 15)) (lA (nB 0) 15)))) (.node (nB 0) (.node (nB 0) (.node (nB 0) (.node (nB 0)
  (lA (nB 0) 14) (fA 15)) (.node (nB 0) (lA (nB 0) 14) (fA 15))) (.node (nB 0) (.node (nB 0) (lA (nB 0) 14) (fA 15)) (lA (nB 0) 15))) (.node (nB 0) (.node (nB 0) (.node (nB 0) (lA
  (nB 0) 14) (fA 15)) (.node (nB 0) (lA (nB 0) 14) (fA 15))) (.node (nB 0) (.node (nB 0) (lA (nB 0) 14) (fA 15)) (lA (nB 0) 15))))))) (.node (nB 65) (.node (nB 12) (.node (nB 4)
  (.node (nB 0) (.node (nB 0) (.node (nB 0) (.node (nB 0) (lA (nB 0) 14) (fA 15)) (.node (nB 0) (lA (nB 0) 14) (fA 15))) (.node (nB 0) (.node (nB 0) (lA (nB 0) 14) (fA 15)) (.node
  (nB 0) (lA (nB 0) 14) (fA 15)))) (.node (nB 0) (.node (nB 0) (.node (nB 0) (lA (nB 0) 14) (fA 15)) (.node (nB 0) (lA (nB 0) 14) (fA 15))) (.node (nB 0) (.node (nB 0) (lA (nB 0) 14)
  (fA 15)) (lA (nB 0) 15)))) (.node (nB 0) (.node (nB 0) (.node (nB 0) (.node (nB 0) (lA (nB 0) 14) (fA 15)) (.node (nB 0) (lA (nB 0) 14) (fA 15))) (.node (nB 0) (.node (nB 0) (lA
  (nB 0) 14) (fA 15)) (lA (nB 0) 15))) (.node (nB 0) (.node (nB 0) (.node (nB 0) (lA (nB 0) 14) (fA 15)) (.node (nB 0) (lA (nB 0) 14) (fA 15))) (.node (nB 0) (.node (nB 0) (lA (nB 0)
  14) (fA 15)) (lA (nB 0) 15))))) (.node (nB 243) (.node (nB 0) (.node (nB 0) (.node (nB 0) (.node (nB 0) (lA (nB 0) 14) (fA 15)) (.node (nB 0) (lA (nB 0) 14) (fA 15))) (.node (nB 0)
  (.node (nB 0) (lA (nB 0) 14) (fA 15)) (.node (nB 0) (lA (nB 0) 14) (fA 15)))) (.node (nB 0) (.node (nB 0) (.node (nB 0) (lA (nB 0) 14) (fA 15)) (.node (nB 0) (lA (nB 0) 14) (fA
  15))) (.node (nB 0) (.node (nB 0) (lA (nB 0) 14) (fA 15)) (lA (nB 0) 15)))) (.node (nB 0) (.node (nB 0) (.node (nB 0) (.node (nB 0) (lA (nB 0) 14) (fA 15)) (.node (nB 0) (lA (nB 0)
  14) (fA 15))) (.node (nB 0) (.node (nB 0) (lA (nB 0) 14) (fA 15)) (lA (nB 0) 15))) (.node (nB 0) (.node (nB 0) (.node (nB 0) (lA (nB 0) 14) (fA 15)) (.node (nB 0) (lA (nB 0) 14)
  (fA 15))) (.node (nB 0) (.node (nB 0) (lA (nB 0) 14) (fA 15)) (lA (nB 0) 15)))))) (.node (nB 0) (.node (nB 0) (.node (nB 0) (.node (nB 0) (.node (nB 0) (.node (nB 0) (lA (nB 0) 14)
  (fA 15)) (.node (nB 0) (lA (nB 0) 14) (fA 15))) (.node (nB 0) (.node (nB 0) (lA (nB 0) 14) (fA 15)) (.node (nB 0) (lA (nB 0) 14) (fA 15)))) (.node (nB 0) (.node (nB 0) (.node (nB
  0) (lA (nB 0) 14) (fA 15)) (.node (nB 0) (lA (nB 0) 14) (fA 15))) (.node (nB 0) (.node (nB 0) (lA (nB 0) 14) (fA 15)) (lA (nB 0) 15)))) (.node (nB 0) (.node (nB 0) (.node (nB 0)
  (.node (nB 0) (lA (nB 0) 14) (fA 15)) (.node (nB 0) (lA (nB 0) 14) (fA 15))) (.node (nB 0) (.node (nB 0) (lA (nB 0) 14) (fA 15)) (lA (nB 0) 15))) (.node (nB 0) (.node (nB 0) (.node
  (nB 0) (lA (nB 0) 14) (fA 15)) (.node (nB 0) (lA (nB 0) 14) (fA 15))) (.node (nB 0) (.node (nB 0) (lA (nB 0) 14) (fA 15)) (lA (nB 0) 15))))) (.node (nB 255) (.node (nB 0) (.node
  (nB 0) (.node (nB 0) (.node (nB 0) (lA (nB 0) 14) (fA 15)) (.node (nB 0) (lA (nB 0) 14) (fA 15))) (.node (nB 0) (.node (nB 0) (lA (nB 0) 14) (fA 15)) (.node (nB 0) (lA (nB 0) 14)
  (fA 15)))) (.node (nB 0) (.node (nB 0) (.node (nB 0) (lA (nB 0) 14) (fA 15)) (.node (nB 0) (lA (nB 0) 14) (fA 15))) (.node (nB 0) (.node (nB 0) (lA (nB 0) 14) (fA 15)) (lA (nB 0)
  15)))) (.node (nB 0) (.node (nB 0) (.node (nB 0) (.node (nB 0) (lA (nB 0) 14) (fA 15)) (.node (nB 0) (lA (nB 0) 14) (fA 15))) (.node (nB 0) (.node (nB 0) (lA (nB 0) 14) (fA 15))
  (lA (nB 0) 15))) (.node (nB 0) (.node (nB 0) (.node (nB 0) (lA (nB 0) 14) (fA 15)) (.node (nB 0) (lA (nB 0) 14) (fA 15))) (.node (nB 0) (.node (nB 0) (lA (nB 0) 14) (fA 15)) (lA
  (nB 0) 15)))))))) (.node (nB 83) (.node (nB 70) (.node (nB 0) (.node (nB 64) (.node (nB 0) (.node (nB 0) (.node (nB 0) (.node (nB 0) (lA (nB 0) 14) (fA 15)) (.node (nB 0) (lA (nB
  0) 14) (fA 15))) (.node (nB 0) (.node (nB 0) (lA (nB 0) 14) (fA 15)) (.node (nB 0) (lA (nB 0) 14) (fA 15)))) (.node (nB 0) (.node (nB 0) (.node (nB 0) (lA (nB 0) 14) (fA 15))
  (.node (nB 0) (lA (nB 0) 14) (fA 15))) (.node (nB 0) (.node (nB 0) (lA (nB 0) 14) (fA 15)) (lA (nB 0) 15)))) (.node (nB 0) (.node (nB 0) (.node (nB 0) (.node (nB 0) (lA (nB 0) 14)
  (fA 15)) (.node (nB 0) (lA (nB 0) 14) (fA 15))) (.node (nB 0) (.node (nB 0) (lA (nB 0) 14) (fA 15)) (lA (nB 0) 15))) (.node (nB 0) (.node (nB 0) (.node (nB 0) (lA (nB 0) 14) (fA
  15)) (.node (nB 0) (lA (nB 0) 14) (fA 15))) (.node (nB 0) (.node (nB 0) (lA (nB 0) 14) (fA 15)) (lA (nB 0) 15))))) (.node (nB 255) (.node (nB 0) (.node (nB 0) (.node (nB 0) (.node
  (nB 0) (lA (nB 0) 14) (fA 15)) (.node (nB 0) (lA (nB 0) 14) (fA 15))) (.node (nB 0) (.node (nB 0) (lA (nB 0) 14) (fA 15)) (.node (nB 0) (lA (nB 0) 14) (fA 15)))) (.node (nB 0)
  (.node (nB 0) (.node (nB 0) (lA (nB 0) 14) (fA 15)) (.node (nB 0) (lA (nB 0) 14) (fA 15))) (.node (nB 0) (.node (nB 0) (lA (nB 0) 14) (fA 15)) (lA (nB 0) 15)))) (.node (nB 0)
  (.node (nB 0) (.node (nB 0) (.node (nB 0) (lA (nB 0) 14) (fA 15)) (.node (nB 0) (lA (nB 0) 14) (fA 15))) (.node (nB 0) (.node (nB 0) (lA (nB 0) 14) (fA 15)) (lA (nB 0) 15))) (.node
  (nB 0) (.node (nB 0) (.node (nB 0) (lA (nB 0) 14) (fA 15)) (.node (nB 0) (lA (nB 0) 14) (fA 15))) (.node (nB 0) (.node (nB 0) (lA (nB 0) 14) (fA 15)) (lA (nB 0) 15)))))) (.node (nB
  0) (.node (nB 0) (.node (nB 0) (.node (nB 0) (.node (nB 0) (.node (nB 0) (lA (nB 0) 14) (fA 15)) (.node (nB 0) (lA (nB 0) 14) (fA 15))) (.node (nB 0) (.node (nB 0) (lA (nB 0) 14)
  (fA 15)) (.node (nB 0) (lA (nB 0) 14) (fA 15)))) (.node (nB 0) (.node (nB 0) (.node (nB 0) (lA (nB 0) 14) (fA 15)) (.node (nB 0) (lA (nB 0) 14) (fA 15))) (.node (nB 0) (.node (nB
  0) (lA (nB 0) 14) (fA 15)) (lA (nB 0) 15)))) (.node (nB 0) (.node (nB 0) (.node (nB 0) (.node (nB 0) (lA (nB 0) 14) (fA 15)) (.node (nB 0) (lA (nB 0) 14) (fA 15))) (.node (nB 0)
  (.node (nB 0) (lA (nB 0) 14) (fA 15)) (lA (nB 0) 15))) (.node (nB 0) (.node (nB 0) (.node (nB 0) (lA (nB 0) 14) (fA 15)) (.node (nB 0) (lA (nB 0) 14) (fA 15))) (.node (nB 0) (.node
  (nB 0) (lA (nB 0) 14) (fA 15)) (lA (nB 0) 15))))) (.node (nB 255) (.node (nB 0) (.node (nB 0) (.node (nB 0) (.node (nB 0) (lA (nB 0) 14) (fA 15)) (.node (nB 0) (lA (nB 0) 14) (fA
  15))) (.node (nB 0) (.node (nB 0) (lA (nB 0) 14) (fA 15)) (.node (nB 0) (lA (nB 0) 14) (fA 15)))) (.node (nB 0) (.node (nB 0) (.node (nB 0) (lA (nB 0) 14) (fA 15)) (.node (nB 0)
  (lA (nB 0) 14) (fA 15))) (.node (nB 0) (.node (nB 0) (lA (nB 0) 14) (fA 15)) (lA (nB 0) 15)))) (.node (nB 0) (.node (nB 0) (.node (nB 0) (.node (nB 0) (lA (nB 0) 14) (fA 15))
  (.node (nB 0) (lA (nB 0) 14) (fA 15))) (.node (nB 0) (.node (nB 0) (lA (nB 0) 14) (fA 15)) (lA (nB 0) 15))) (.node (nB 0) (.node (nB 0) (.node (nB 0) (lA (nB 0) 14) (fA 15)) (.node
  (nB 0) (lA (nB 0) 14) (fA 15))) (.node (nB 0) (.node (nB 0) (lA (nB 0) 14) (fA 15)) (lA (nB 0) 15))))))) (.node (nB 73) (.node (nB 0) (.node (nB 0) (.node (nB 0) (.node (nB 0)
  (.node (nB 0) (.node (nB 0) (lA (nB 0) 14) (fA 15)) (.node (nB 0) (lA (nB 0) 14) (fA 15))) (.node (nB 0) (.node (nB 0) (lA (nB 0) 14) (fA 15)) (.node (nB 0) (lA (nB 0) 14) (fA
  15)))) (.node (nB 0) (.node (nB 0) (.node (nB 0) (lA (nB 0) 14) (fA 15)) (.node (nB 0) (lA (nB 0) 14) (fA 15))) (.node (nB 0) (.node (nB 0) (lA (nB 0) 14) (fA 15)) (lA (nB 0)
  15)))) (.node (nB 0) (.node (nB 0) (.node (nB 0) (.node (nB 0) (lA (nB 0) 14) (fA 15)) (.node (nB 0) (lA (nB 0) 14) (fA 15))) (.node (nB 0) (.node (nB 0) (lA (nB 0) 14) (fA 15))
  (lA (nB 0) 15))) (.node (nB 0) (.node (nB 0) (.node (nB 0) (lA (nB 0) 14) (fA 15)) (.node (nB 0) (lA (nB 0) 14) (fA 15))) (.node (nB 0) (.node (nB 0) (lA (nB 0) 14) (fA 15)) (lA
  (nB 0) 15))))) (.node (nB 255) (.node (nB 0) (.node (nB 0) (.node (nB 0) (.node (nB 0) (lA (nB 0) 14) (fA 15)) (.node (nB 0) (lA (nB 0) 14) (fA 15))) (.node (nB 0) (.node (nB 0)
  (lA (nB 0) 14) (fA 15)) (.node (nB 0) (lA (nB 0) 14) (fA 15)))) (.node (nB 0) (.node (nB 0) (.node (nB 0) (lA (nB 0) 14) (fA 15)) (.node (nB 0) (lA (nB 0) 14) (fA 15))) (.node (nB
  0) (.node (nB 0) (lA (nB 0) 14) (fA 15)) (lA (nB 0) 15)))) (.node (nB 0) (.node (nB 0) (.node (nB 0) (.node (nB 0) (lA (nB 0) 14) (fA 15)) (.node (nB 0) (lA (nB 0) 14) (fA 15)))
  (.node (nB 0) (.node (nB 0) (lA (nB 0) 14) (fA 15)) (lA (nB 0) 15))) (.node (nB 0) (.node (nB 0) (.node (nB 0) (lA (nB 0) 14) (fA 15)) (.node (nB 0) (lA (nB 0) 14) (fA 15))) (.node
  (nB 0) (.node (nB 0) (lA (nB 0) 14) (fA 15)) (lA (nB 0) 15)))))) (.node (nB 0) (.node (nB 0) (.node (nB 0) (.node (nB 0) (.node (nB 0) (.node (nB 0) (lA (nB 0) 14) (fA 15)) (.node
  (nB 0) (lA (nB 0) 14) (fA 15))) (.node (nB 0) (.node (nB 0) (lA (nB 0) 14) (fA 15)) (.node (nB 0) (lA (nB 0) 14) (fA 15)))) (.node (nB 0) (.node (nB 0) (.node (nB 0) (lA (nB 0) 14)
  (fA 15)) (.node (nB 0) (lA (nB 0) 14) (fA 15))) (.node (nB 0) (.node (nB 0) (lA (nB 0) 14) (fA 15)) (lA (nB 0) 15)))) (.node (nB 0) (.node (nB 0) (.node (nB 0) (.node (nB 0) (lA
  (nB 0) 14) (fA 15)) (.node (nB 0) (lA (nB 0) 14) (fA 15))) (.node (nB 0) (.node (nB 0) (lA (nB 0) 14) (fA 15)) (lA (nB 0) 15))) (.node (nB 0) (.node (nB 0) (.node (nB 0) (lA (nB 0)
  14) (fA 15)) (.node (nB 0) (lA (nB 0) 14) (fA 15))) (.node (nB 0) (.node (nB 0) (lA (nB 0) 14) (fA 15)) (lA (nB 0) 15))))) (.node (nB 255) (.node (nB 0) (.node (nB 0) (.node (nB 0)
  (.node (nB 0) (lA (nB 0) 14) (fA 15)) (.node (nB 0) (lA (nB 0) 14) (fA 15))) (.node (nB 0) (.node (nB 0) (lA (nB 0) 14) (fA 15)) (.node (nB 0) (lA (nB 0) 14) (fA 15)))) (.node (nB
  0) (.node (nB 0) (.node (nB 0) (lA (nB 0) 14) (fA 15)) (.node (nB 0) (lA (nB 0) 14) (fA 15))) (.node (nB 0) (.node (nB 0) (lA (nB 0) 14) (fA 15)) (lA (nB 0) 15)))) (.node (nB 0)
  (.node (nB 0) (.node (nB 0) (.node (nB 0) (lA (nB 0) 14) (fA 15)) (.node (nB 0) (lA (nB 0) 14) (fA 15))) (.node (nB 0) (.node (nB 0) (lA (nB 0) 14) (fA 15)) (lA (nB 0) 15))) (.node
  (nB 0) (.node (nB 0) (.node (nB 0) (lA (nB 0) 14) (fA 15)) (.node (nB 0) (lA (nB 0) 14) (fA 15))) (.node (nB 0) (.node (nB 0) (lA (nB 0) 14) (fA 15)) (lA (nB 0) 15))))))))) false
  false) 11) (fD 12))))) (fD 16)))) (.node .dead (.node .dead (fD 17) (.node .dead (.node .dead (.node .dead (fD 14) (.node .dead (lD o19 12) (.node .dead (lD (.cells 49 10 10 (.node
  (nI 7) (.node (nI 0) (.node (nU 0) (lA (nU 0) 20) (fA 21)) (.node (nI 0) (lA .nilsl 20) (fA 21))) (.node (nI 0) (.node (nU 0) (lA (nI 0) 20) (fA 21)) (lA (.str (bs [])) 21))) true
  false) 11) (fD 12)))) (fD 15)) (fD 16))) (fD 18))))))), 5999⟩,
  [.code (codeAt Tryz.f170 [1, 1, 0, 1, 0, 0, 1, 1]), .lp (codeAt Tryz.f170 [1, 1, 0, 1, 0, 0]), .blk 0, .code
  (codeAt Tryz.f170 [1, 1, 1])]⟩
/-- where the run stands at the end of part 14 -/
noncomputable def s14 : St :=
  ⟨⟨170, 20, [], .normal, none,
  [o24,
    o29,
    o26,
    o23,
    o27,
    o30,
    o28,
    o18,
    o16,
    o6]⟩,
  .run,
  (.node (.sl 5728 0 0 384 (.u 5728 0)) (.node
  undefV (.node (.sl 6391 0 0 1768 (.u 6391 0)) (.node (.sl 5728 0 0 384 (.u 5728 0)) (lU (.sl 6388 0 0 1760 (.u 6388 0)) 19) (fU 20)) (lU (.ptr 5728 220) 20)) (.node (nU 0) (.node
  (nI 221) (lU (.sl 6391 0 0 1768 (.u 6391 0)) 19) (fU 20)) (lU (nU 0) 20))) (.node .nilsl (.node undefV (.node (nI 384) (lU (.sl 6390 0 0 8 (.k 8)) 19) (fU 20)) (lU (nU 0) 20))
  (.node (.ptr 6390 0) (.node (.bool true) (lU (nI 221) 19) (fU 20)) (lU (.agg [(nB 0), (nB 0), (nB 0), (nB 0), (nB 0), (nB 0), (nB 0), (nB 0)]) 20)))),
  ⟨(.node (.cells 31 10 10
  (.node .nil (.node (nI 0) (.node (nI 0) (lA .nil 20) (fA 21)) (.node (.bool false) (lA .nilfn 20) (fA 21))) (.node (nI 0) (.node .nilsl (lA .nil 20) (fA 21)) (lA .nilsl 21))) true
  false) (.node .dead (.node o1 (.node (.cells 5 1 64 (fB 24) true false) (.node .dead (.node .dead (.node .dead (fD 17) (lD (.map [] 0) 16)) (.node .dead (fD 17) (.node .dead (.node
  .dead (.node .dead (fD 14) (.node .dead (lD (.cells 167 1 1 (lA (.ptr 1882 0) 23) true false) 12) (.node .dead (lD (.cells 43 1 1 (lA (nU 0) 23) true false) 11) (fD 12)))) (fD 15))
  (fD 16)))) (fD 19)) (.node .dead (.node .dead (.node .dead (fD 17) (.node .dead (fD 16) (.node .dead (fD 15) (lD o15 14)))) (fD 18)) (.node .dead (fD 18) (.node .dead (fD 17)
  (.node .dead (fD 16) (.node .dead (.node .dead (.node .dead (.node .dead (fD 12) (lD (.cells 5 1 1768 (.node (nB 70) (.node (nB 65) (.node (nB 84) (.node (nB 82) (.node (nB 0)
  (.node (nB 255) (.node (nB 0) (.node (nB 0) (.node (nB 0) (.node (nB 0) (lA (nB 0) 13) (lA (nB 0) 13)) (.node (nB 0) (lA (nB 0) 13) (fA 14))) (.node (nB 0) (.node (nB 0) (lA (nB 0)
  13) (lA (nB 0) 13)) (.node (nB 0) (lA (nB 0) 13) (fA 14)))) (.node (nB 0) (.node (nB 0) (.node (nB 0) (lA (nB 0) 13) (lA (nB 0) 13)) (.node (nB 0) (lA (nB 0) 13) (fA 14))) (.node
  (nB 0) (.node (nB 0) (lA (nB 0) 13) (lA (nB 0) 13)) (.node (nB 0) (lA (nB 0) 13) (fA 14))))) (.node (nB 0) (.node (nB 0) (.node (nB 0) (.node (nB 0) (lA (nB 0) 13) (lA (nB 0) 13))
  (.node (nB 0) (lA (nB 0) 13) (fA 14))) (.node (nB 0) (.node (nB 0) (lA (nB 0) 13) (lA (nB 0) 13)) (.node (nB 0) (lA (nB 0) 13) (fA 14)))) (.node (nB 0) (.node (nB 0) (.node (nB 0)
  (lA (nB 0) 13) (lA (nB 0) 13)) (.node (nB 0) (lA (nB 0) 13) (fA 14))) (.node (nB 0) (.node (nB 0) (lA (nB 0) 13) (lA (nB 0) 13)) (.node (nB 0) (lA (nB 0) 13) (fA 14)))))) (.node
  (nB 0) (.node (nB 0) (.node (nB 0) (.node (nB 0) (.node (nB 0) (lA (nB 0) 13) (lA (nB 0) 13)) (.node (nB 0) (lA (nB 0) 13) (fA 14))) (.node (nB 0) (.node (nB 0) (lA (nB 0) 13) (lA
  (nB 0) 13)) (.node (nB 0) (lA (nB 0) 13) (fA 14)))) (.node (nB 0) (.node (nB 0) (.node (nB 0) (lA (nB 0) 13) (lA (nB 0) 13)) (.node (nB 0) (lA (nB 0) 13) (fA 14))) (.node (nB 0)
  (.node (nB 0) (lA (nB 0) 13) (lA (nB 0) 13)) (.node (nB 0) (lA (nB 0) 13) (fA 14))))) (.node (nB 0) (.node (nB 0) (.node (nB 0) (.node (nB 0) (lA (nB 0) 13) (lA (nB 0) 13)) (.node
  (nB 0) (lA (nB 0) 13) (fA 14))) (.node (nB 0) (.node (nB 0) (lA (nB 0) 13) (lA (nB 0) 13)) (.node (nB 0) (lA (nB 0) 13) (fA 14)))) (.node (nB 0) (.node (nB 0) (.node (nB 0) (lA (nB
  0) 13) (lA (nB 0) 13)) (.node (nB 0) (lA (nB 0) 13) (fA 14))) (.node (nB 0) (.node (nB 0) (lA (nB 0) 13) (fA 14)) (.node (nB 0) (lA (nB 0) 13) (fA 14))))))) (.node (nB 0) (.node
  (nB 0) (.node (nB 0) (.node (nB 0) (.node (nB 0) (.node (nB 0) (lA (nB 0) 13) (lA (nB 0) 13)) (.node (nB 0) (lA (nB 0) 13) (fA 14))) (.node (nB 0) (.node (nB 0) (lA (nB 0) 13) (lA
  (nB 0) 13)) (.node (nB 0) (lA (nB 0) 13) (fA 14)))) (.node (nB 0) (.node (nB 0) (.node (nB 0) (lA (nB 76) 13) (lA (nB 0) 13)) (.node (nB 0) (lA (nB 0) 13) (fA 14))) (.node (nB 0)
  (.node (nB 0) (lA (nB 0) 13) (lA (nB 0) 13)) (.node (nB 0) (lA (nB 0) 13) (fA 14))))) (.node (nB 0) (.node (nB 0) (.node (nB 0) (.node (nB 0) (lA (nB 0) 13) (lA (nB 0) 13)) (.node
  (nB 0) (lA (nB 0) 13) (fA 14))) (.node (nB 0) (.node (nB 0) (lA (nB 0) 13) (lA (nB 0) 13)) (.node (nB 0) (lA (nB 0) 13) (fA 14)))) (.node (nB 0) (.node (nB 0) (.node (nB 0) (lA (nB
  0) 13) (lA (nB 0) 13)) (.node (nB 0) (lA (nB 0) 13) (fA 14))) (.node (nB 0) (.node (nB 0) (lA (nB 0) 13) (lA (nB 0) 13)) (.node (nB 0) (lA (nB 0) 13) (fA 14)))))) (.node (nB 0)
  (.node (nB 0) (.node (nB 0) (.node (nB 0) (.node (nB 0) (lA (nB 0) 13) (lA (nB 0) 13)) (.node (nB 0) (lA (nB 0) 13) (fA 14))) (.node (nB 0) (.node (nB 0) (lA (nB 0) 13) (lA (nB 0)
  13)) (.node (nB 0) (lA (nB 0) 13) (fA 14)))) (.node (nB 0) (.node (nB 0) (.node (nB 0) (lA (nB 0) 13) (lA (nB 0) 13)) (.node (nB 0) (lA (nB 0) 13) (fA 14))) (.node (nB 0) (.node
  (nB 0) (lA (nB 0) 13) (lA (nB 0) 13)) (.node (nB 0) (lA (nB 0) 13) (fA 14))))) (.node (nB 0) (.node (nB 0) (.node (nB 0) (.node (nB 0) (lA (nB 0) 13) (lA (nB 0) 13)) (.node (nB 0)
  (lA (nB 0) 13) (fA 14))) (.node (nB 0) (.node (nB 0) (lA (nB 0) 13) (lA (nB 0) 13)) (.node (nB 0) (lA (nB 0) 13) (fA 14)))) (.node (nB 0) (.node (nB 0) (.node (nB 0) (lA (nB 0) 13)
  (lA (nB 0) 13)) (.node (nB 0) (lA (nB 0) 13) (fA 14))) (.node (nB 0) (.node (nB 0) (lA (nB 0) 13) (fA 14)) (.node (nB 0) (lA (nB 0) 13) (fA 14)))))))) (.node (nB 0) (.node (nB 0)
  (.node (nB 0) (.node (nB 0) (.node (nB 0) (.node (nB 0) (.node (nB 0) (lA (nB 0) 13) (lA (nB 0) 13)) (.node (nB 0) (lA (nB 0) 13) (fA 14))) (.node (nB 0) (.node (nB 0) (lA (nB 0)
  13) (lA (nB 0) 13)) (.node (nB 0) (lA (nB 0) 13) (fA 14)))) (.node (nB 0) (.node (nB 0) (.node (nB 0) (lA (nB 69) 13) (lA (nB 0) 13)) (.node (nB 0) (lA (nB 0) 13) (fA 14))) (.node
  (nB 0) (.node (nB 0) (lA (nB 0) 13) (lA (nB 0) 13)) (.node (nB 0) (lA (nB 0) 13) (fA 14))))) (.node (nB 0) (.node (nB 0) (.node (nB 0) (.node (nB 0) (lA (nB 0) 13) (lA (nB 0) 13))
  (.node (nB 0) (lA (nB 0) 13) (fA 14))) (.node (nB 0) (.node (nB 0) (lA (nB 0) 13) (lA (nB 0) 13)) (.node (nB 0) (lA (nB 0) 13) (fA 14)))) (.node (nB 0) (.node (nB 0) (.node (nB 0)
  (lA (nB 0) 13) (lA (nB 0) 13)) (.node (nB 0) (lA (nB 0) 13) (fA 14))) (.node (nB 0) (.node (nB 0) (lA (nB 0) 13) (lA (nB 0) 13)) (.node (nB 0) (lA (nB 0) 13) (fA 14)))))) (.node
  (nB 0) (.node (nB 0) (.node (nB 0) (.node (nB 0) (.node (nB 0) (lA (nB 0) 13) (lA (nB 0) 13)) (.node (nB 0) (lA (nB 0) 13) (fA 14))) (.node (nB 0) (.node (nB 0) (lA (nB 0) 13) (lA
  (nB 0) 13)) (.node (nB 0) (lA (nB 0) 13) (fA 14)))) (.node (nB 0) (.node (nB 0) (.node (nB 0) (lA (nB 0) 13) (lA (nB 0) 13)) (.node (nB 0) (lA (nB 0) 13) (fA 14))) (.node (nB 0)
  (.node (nB 0) (lA (nB 0) 13) (lA (nB 0) 13)) (.node (nB 0) (lA (nB 0) 13) (fA 14))))) (.node (nB 0) (.node (nB 0) (.node (nB 0) (.node (nB 0) (lA (nB 0) 13) (lA (nB 0) 13)) (.node
  (nB 0) (lA (nB 0) 13) (fA 14))) (.node (nB 0) (.node (nB 0) (lA (nB 0) 13) (lA (nB 0) 13)) (.node (nB 0) (lA (nB 0) 13) (fA 14)))) (.node (nB 0) (.node (nB 0) (.node (nB 0) (lA (nB
  0) 13) (lA (nB 0) 13)) (.node (nB 0) (lA (nB 0) 13) (fA 14))) (.node (nB 0) (.node (nB 0) (lA (nB 0) 13) (fA 14)) (.node (nB 0) (lA (nB 0) 13) (fA 14))))))) (.node (nB 255) (.node
  (nB 0) (.node (nB 0) (.node (nB 0) (.node (nB 0) (.node (nB 0) (lA (nB 0) 13) (lA (nB 0) 13)) (.node (nB 0) (lA (nB 0) 13) (fA 14))) (.node (nB 0) (.node (nB 0) (lA (nB 0) 13) (lA
  (nB 0) 13)) (.node (nB 0) (lA (nB 0) 13) (fA 14)))) (.node (nB 0) (.node (nB 0) (.node (nB 0) (lA (nB 0) 13) (lA (nB 0) 13)) (.node (nB 0) (lA (nB 0) 13) (fA 14))) (.node (nB 0)
  (.node (nB 0) (lA (nB 0) 13) (lA (nB 0) 13)) (.node (nB 0) (lA (nB 0) 13) (fA 14))))) (.node (nB 0) (.node (nB 0) (.node (nB 0) (.node (nB 0) (lA (nB 0) 13) (lA (nB 0) 13)) (.node
  (nB 0) (lA (nB 0) 13) (fA 14))) (.node (nB 0) (.node (nB 0) (lA (nB 0) 13) (lA (nB 0) 13)) (.node (nB 0) (lA (nB 0) 13) (fA 14)))) (.node (nB 0) (.node (nB 0) (.node (nB 0) (lA (nB
  0) 13) (lA (nB 0) 13)) (.node (nB 0) (lA (nB 0) 13) (fA 14))) (.node (nB 0) (.node (nB 0) (lA (nB 0) 13) (fA 14)) (.node (nB 0) (lA (nB 0) 13) (fA 14)))))) (.node (nB 0) (.node (nB
  0) (.node (nB 0) (.node (nB 0) (.node (nB 0) (lA (nB 0) 13) (lA (nB 0) 13)) (.node (nB 0) (lA (nB 0) 13) (fA 14))) (.node (nB 0) (.node (nB 0) (lA (nB 0) 13) (lA (nB 0) 13)) (.node
  (nB 0) (lA (nB 0) 13) (fA 14)))) (.node (nB 0) (.node (nB 0) (.node (nB 0) (lA (nB 0) 13) (lA (nB 0) 13)) (.node (nB 0) (lA (nB 0) 13) (fA 14))) (.node (nB 0) (.node (nB 0) (lA (nB
  0) 13) (lA (nB 0) 13)) (.node (nB 0) (lA (nB 0) 13) (fA 14))))) (.node (nB 0) (.node (nB 0) (.node (nB 0) (.node (nB 0) (lA (nB 0) 13) (lA (nB 0) 13)) (.node (nB 0) (lA (nB 0) 13)
  (fA 14))) (.node (nB 0) (.node (nB 0) (lA (nB 0) 13) (lA (nB 0) 13)) (.node (nB 0) (lA (nB 0) 13) (fA 14)))) (.node (nB 0) (.node (nB 0) (.node (nB 0) (lA (nB 0) 13) (lA (nB 0)
  13)) (.node (nB 0) (lA (nB 0) 13) (fA 14))) (.node (nB 0) (.node (nB 0) (lA (nB 0) 13) (fA 14)) (.node (nB 0) (lA (nB 0) 13) (fA 14))))))))) (.node (nB 65) (.node (nB 12) (.node
  (nB 4) (.node (nB 0) (.node (nB 0) (.node (nB 0) (.node (nB 0) (.node (nB 0) (lA (nB 0) 13) (lA (nB 0) 13)) (.node (nB 0) (lA (nB 0) 13) (fA 14))) (.node (nB 0) (.node (nB 0) (lA
  (nB 0) 13) (lA (nB 0) 13)) (.node (nB 0) (lA (nB 0) 13) (fA 14)))) (.node (nB 0) (.node (nB 0) (.node (nB 0) (lA (nB 0) 13) (lA (nB 0) 13)) (.node (nB 0) (lA (nB 0) 13) (fA 14)))
  (.node (nB 0) (.node (nB 0) (lA (nB 0) 13) (lA (nB 0) 13)) (.node (nB 0) (lA (nB 0) 13) (fA 14))))) (.node (nB 0) (.node (nB 0) (.node (nB 0) (.node (nB 0) (lA (nB 0) 13) (lA (nB
  0) 13)) (.node (nB 0) (lA (nB 0) 13) (fA 14))) (.node (nB 0) (.node (nB 0) (lA (nB 0) 13) (lA (nB 0) 13)) (.node (nB 0) (lA (nB 0) 13) (fA 14)))) (.node (nB 0) (.node (nB 0) (.node
  (nB 0) (lA (nB 4) 13) (lA (nB 0) 13)) (.node (nB 0) (lA (nB 0) 13) (fA 14))) (.node (nB 0) (.node (nB 0) (lA (nB 0) 13) (lA (nB 0) 13)) (.node (nB 0) (lA (nB 0) 13) (fA 14))))))
  (.node (nB 0) (.node (nB 0) (.node (nB 0) (.node (nB 0) (.node (nB 0) (lA (nB 0) 13) (lA (nB 0) 13)) (.node (nB 0) (lA (nB 0) 13) (fA 14))) (.node (nB 0) (.node (nB 0) (lA (nB 0)
  13) (lA (nB 0) 13)) (.node (nB 0) (lA (nB 0) 13) (fA 14)))) (.node (nB 0) (.node (nB 0) (.node (nB 0) (lA (nB 0) 13) (lA (nB 0) 13)) (.node (nB 0) (lA (nB 0) 13) (fA 14))) (.node
  (nB 0) (.node (nB 0) (lA (nB 0) 13) (lA (nB 0) 13)) (.node (nB 0) (lA (nB 0) 13) (fA 14))))) (.node (nB 0) (.node (nB 0) (.node (nB 0) (.node (nB 0) (lA (nB 0) 13) (lA (nB 0) 13))
  (.node (nB 0) (lA (nB 0) 13) (fA 14))) (.node (nB 0) (.node (nB 0) (lA (nB 0) 13) (lA (nB 0) 13)) (.node (nB 0) (lA (nB 0) 13) (fA 14)))) (.node (nB 0) (.node (nB 0) (.node (nB 0)
  (lA (nB 0) 13) (lA (nB 0) 13)) (.node (nB 0) (lA (nB 0) 13) (fA 14))) (.node (nB 0) (.node (nB 0) (lA (nB 0) 13) (fA 14)) (.node (nB 0) (lA (nB 0) 13) (fA 14))))))) (.node (nB 243)
  (.node (nB 0) (.node (nB 0) (.node (nB 0) (.node (nB 0) (.node (nB 0) (lA (nB 0) 13) (lA (nB 0) 13)) (.node (nB 0) (lA (nB 0) 13) (fA 14))) (.node (nB 0) (.node (nB 0) (lA (nB 0)
  13) (lA (nB 0) 13)) (.node (nB 0) (lA (nB 0) 13) (fA 14)))) (.node (nB 0) (.node (nB 0) (.node (nB 0) (lA (nB 0) 13) (lA (nB 0) 13)) (.node (nB 0) (lA (nB 0) 13) (fA 14))) (.node
  (nB 0) (.node (nB 0) (lA (nB 0) 13) (lA (nB 0) 13)) (.node (nB 0) (lA (nB 0) 13) (fA 14))))) (.node (nB 0) (.node (nB 0) (.node (nB 0) (.node (nB 0) (lA (nB 0) 13) (lA (nB 0) 13))
  (.node (nB 0) (lA (nB 0) 13) (fA 14))) (.node (nB 0) (.node (nB 0) (lA (nB 0) 13) (lA (nB 0) 13)) (.node (nB 0) (lA (nB 0) 13) (fA 14)))) (.node (nB 0) (.node (nB 0) (.node (nB 0)
  (lA (nB 0) 13) (lA (nB 0) 13)) (.node (nB 0) (lA (nB 0) 13) (fA 14))) (.node (nB 0) (.node (nB 0) (lA (nB 0) 13) (fA 14)) (.node (nB 0) (lA (nB 0) 13) (fA 14)))))) (.node (nB 0)
  (.node (nB 0) (.node (nB 0) (.node (nB 0) (.node (nB 0) (lA (nB 0) 13) (lA (nB 0) 13)) (.node (nB 0) (lA (nB 0) 13) (fA 14))) (.node (nB 0) (.node (nB 0) (lA (nB 0) 13) (lA (nB 0)
  13)) (.node (nB 0) (lA (nB 0) 13) (fA 14)))) (.node (nB 0) (.node (nB 0) (.node (nB 0) (lA (nB 0) 13) (lA (nB 0) 13)) (.node (nB 0) (lA (nB 0) 13) (fA 14))) (.node (nB 0) (.node
  (nB 0) (lA (nB 0) 13) (lA (nB 0) 13)) (.node (nB 0) (lA (nB 0) 13) (fA 14))))) (.node (nB 0) (.node (nB 0) (.node (nB 0) (.node (nB 0) (lA (nB 0) 13) (lA (nB 0) 13)) (.node (nB 0)
  (lA (nB 0) 13) (fA 14))) (.node (nB 0) (.node (nB 0) (lA (nB 0) 13) (lA (nB 0) 13)) (.node (nB 0) (lA (nB 0) 13) (fA 14)))) (.node (nB 0) (.node (nB 0) (.node (nB 0) (lA (nB 0) 13)
  (lA (nB 0) 13)) (.node (nB 0) (lA (nB 0) 13) (fA 14))) (.node (nB 0) (.node (nB 0) (lA (nB 0) 13) (fA 14)) (.node (nB 0) (lA (nB 0) 13) (fA 14)))))))) (.node (nB 0) (.node (nB 0)
  (.node (nB 0) (.node (nB 0) (.node (nB 0) (.node (nB 0) (.node (nB 0) (lA (nB 0) 13) (lA (nB 0) 13)) (.node (nB 0) (lA (nB 0) 13) (fA 14))) (.node (nB 0) (.node (nB 0) (lA (nB 0)
  13) (lA (nB 0) 13)) (.node (nB 0) (lA (nB 0) 13) (fA 14)))) (.node (nB 0) (.node (nB 0) (.node (nB 0) (lA (nB 86) 13) (lA (nB 0) 13)) (.node (nB 0) (lA (nB 0) 13) (fA 14))) (.node
  (nB 0) (.node (nB 0) (lA (nB 0) 13) (lA (nB 0) 13)) (.node (nB 0) (lA (nB 0) 13) (fA 14))))) (.node (nB 0) (.node (nB 0) (.node (nB 0) (.node (nB 0) (lA (nB 0) 13) (lA (nB 0) 13))
  (.node (nB 0) (lA (nB 0) 13) (fA 14))) (.node (nB 0) (.node (nB 0) (lA (nB 0) 13) (lA (nB 0) 13)) (.node (nB 0) (lA (nB 0) 13) (fA 14)))) (.node (nB 0) (.node (nB 0) (.node (nB 0)
  (lA (nB 0) 13) (lA (nB 0) 13)) (.node (nB 0) (lA (nB 0) 13) (fA 14))) (.node (nB 0) (.node (nB 0) (lA (nB 0) 13) (lA (nB 0) 13)) (.node (nB 0) (lA (nB 0) 13) (fA 14)))))) (.node
  (nB 0) (.node (nB 0) (.node (nB 0) (.node (nB 0) (.node (nB 0) (lA (nB 0) 13) (lA (nB 0) 13)) (.node (nB 0) (lA (nB 0) 13) (fA 14))) (.node (nB 0) (.node (nB 0) (lA (nB 0) 13) (lA
  (nB 0) 13)) (.node (nB 0) (lA (nB 0) 13) (fA 14)))) (.node (nB 0) (.node (nB 0) (.node (nB 0) (lA (nB 0) 13) (lA (nB 0) 13)) (.node (nB 0) (lA (nB 0) 13) (fA 14))) (.node (nB 0)
  (.node (nB 0) (lA (nB 0) 13) (lA (nB 0) 13)) (.node (nB 0) (lA (nB 0) 13) (fA 14))))) (.node (nB 0) (.node (nB 0) (.node (nB 0) (.node (nB 0) (lA (nB 0) 13) (lA (nB 0) 13)) (.node
  (nB 0) (lA (nB 0) 13) (fA 14))) (.node (nB 0) (.node (nB 0) (lA (nB 0) 13) (lA (nB 0) 13)) (.node (nB 0) (lA (nB 0) 13) (fA 14)))) (.node (nB 0) (.node (nB 0) (.node (nB 0) (lA (nB
  0) 13) (lA (nB 0) 13)) (.node (nB 0) (lA (nB 0) 13) (fA 14))) (.node (nB 0) (.node (nB 0) (lA (nB 0) 13) (fA 14)) (.node (nB 0) (lA (nB 0) 13) (fA 14))))))) (.node (nB 255) (.node
  (nB 0) (.node (nB 0) (.node (nB 0) (.node (nB 0) (.node (nB 0) (lA (nB 0) 13) (lA (nB 0) 13)) (.node (nB 0) (lA (nB 0) 13) (fA 14))) (.node (nB 0) (.node (nB 0) (lA (nB 0) 13) (lA
  (nB 0) 13)) (.node (nB 0) (lA (nB 0) 13) (fA 14)))) (.node (nB 0) (.node (nB 0) (.node (nB 0) (lA (nB 0) 13) (lA (nB 0) 13)) (.node (nB 0) (lA (nB 0) 13) (fA 14))) (.node (nB 0)
  (.node (nB 0) (lA (nB 0) 13) (lA (nB 0) 13)) (.node (nB 0) (lA (nB 0) 13) (fA 14))))) (.node (nB 0) (.node (nB 0) (.node (nB 0) (.node (nB 0) (lA (nB 0) 13) (lA (nB 0) 13)) (.node
  (nB 0) (lA (nB 0) 13) (fA 14))) (.node (nB 0) (.node (nB 0) (lA (nB 0) 13) (lA (nB 0) 13)) (.node (nB 0) (lA (nB 0) 13) (fA 14)))) (.node (nB 0) (.node (nB 0) (.node (nB 0) (lA (nB
  0) 13) (lA (nB 0) 13)) (.node (nB 0) (lA (nB 0) 13) (fA 14))) (.node (nB 0) (.node (nB 0) (lA (nB 0) 13) (fA 14)) (.node (nB 0) (lA (nB 0) 13) (fA 14)))))) (.node (nB 0) (.node (nB
  0) (.node (nB 0) (.node (nB 0) (.node (nB 0) (lA (nB 0) 13) (lA (nB 0) 13)) (.node (nB 0) (lA (nB 0) 13) (fA 14))) (.node (nB 0) (.node (nB 0) (lA (nB 0) 13) (lA (nB 0) 13)) (.node
  (nB 0) (lA (nB 0) 13) (fA 14)))) (.node (nB 0) (.node (nB 0) (.node (nB 0) (lA (nB 0) 13) (lA (nB 0) 13)) (.node (nB 0) (lA (nB 0) 13) (fA 14))) (.node (nB 0) (.node (nB 0) (lA (nB
  0) 13) (lA (nB 0) 13)) (.node (nB 0) (lA (nB 0) 13) (fA 14))))) (.node (nB 0) (.node (nB 0) (.node (nB 0) (.node (nB 0) (lA (nB 0) 13) (lA (nB 0) 13)) (.node (nB 0) (lA (nB 0) 13)
  (fA 14))) (.node (nB 0) (.node (nB 0) (lA (nB 0) 13) (lA (nB 0) 13)) (.node (nB 0) (lA (nB 0) 13) (fA 14)))) (.node (nB 0) (.node (nB 0) (.node (nB 0) (lA (nB 0) 13) (lA (nB 0)
  13)) (.node (nB 0) (lA (nB 0) 13) (fA 14))) (.node (nB 0) (.node (nB 0) (lA (nB 0) 13) (fA 14)) (.node (nB 0) (lA (nB 0) 13) (fA 14)))))))))) (.node (nB 83) (.node (nB 70) (.node
  (nB 0) (.node (nB 64) (.node (nB 0) (.node (nB 0) (.node (nB 0) (.node (nB 0) (.node (nB 0) (lA (nB 3) 13) (lA (nB 0) 13)) (.node (nB 0) (lA (nB 0) 13) (fA 14))) (.node (nB 0)
  (.node (nB 0) (lA (nB 0) 13) (lA (nB 0) 13)) (.node (nB 0) (lA (nB 0) 13) (fA 14)))) (.node (nB 0) (.node (nB 0) (.node (nB 0) (lA (nB 0) 13) (lA (nB 0) 13)) (.node (nB 0) (lA (nB
  0) 13) (fA 14))) (.node (nB 0) (.node (nB 0) (lA (nB 0) 13) (lA (nB 0) 13)) (.node (nB 0) (lA (nB 0) 13) (fA 14))))) (.node (nB 0) (.node (nB 0) (.node (nB 0) (.node (nB 0) (lA (nB
  0) 13) (lA (nB 0) 13)) (.node (nB 0) (lA (nB 0) 13) (fA 14))) (.node (nB 0) (.node (nB 0) (lA (nB 0) 13) (lA (nB 0) 13)) (.node (nB 0) (lA (nB 0) 13) (fA 14)))) (.node (nB 0)
  (.node (nB 0) (.node (nB 0) (lA (nB 64) 13) (lA (nB 0) 13)) (.node (nB 0) (lA (nB 0) 13) (fA 14))) (.node (nB 0) (.node (nB 0) (lA (nB 0) 13) (lA (nB 0) 13)) (.node (nB 0) (lA (nB
  0) 13) (fA 14)))))) (.node (nB 0) (.node (nB 0) (.node (nB 0) (.node (nB 0) (.node (nB 0) (lA (nB 0) 13) (lA (nB 0) 13)) (.node (nB 0) (lA (nB 0) 13) (fA 14))) (.node (nB 0) (.node
  (nB 0) (lA (nB 0) 13) (lA (nB 0) 13)) (.node (nB 0) (lA (nB 0) 13) (fA 14)))) (.node (nB 0) (.node (nB 0) (.node (nB 0) (lA (nB 0) 13) (lA (nB 0) 13)) (.node (nB 0) (lA (nB 0) 13)
  (fA 14))) (.node (nB 0) (.node (nB 0) (lA (nB 0) 13) (lA (nB 0) 13)) (.node (nB 0) (lA (nB 0) 13) (fA 14))))) (.node (nB 0) (.node (nB 0) (.node (nB 0) (.node (nB 0) (lA (nB 0) 13)
  (lA (nB 0) 13)) (.node (nB 0) (lA (nB 0) 13) (fA 14))) (.node (nB 0) (.node (nB 0) (lA (nB 0) 13) (lA (nB 0) 13)) (.node (nB 0) (lA (nB 0) 13) (fA 14)))) (.node (nB 0) (.node (nB
  0) (.node (nB 0) (lA (nB 0) 13) (lA (nB 0) 13)) (.node (nB 0) (lA (nB 0) 13) (fA 14))) (.node (nB 0) (.node (nB 0) (lA (nB 0) 13) (fA 14)) (.node (nB 0) (lA (nB 0) 13) (fA
  14))))))) (.node (nB 255) (.node (nB 0) (.node (nB 0) (.node (nB 0) (.node (nB 0) (.node (nB 0) (lA (nB 1) 13) (lA (nB 0) 13)) (.node (nB 0) (lA (nB 0) 13) (fA 14))) (.node (nB 0)
  (.node (nB 0) (lA (nB 0) 13) (lA (nB 0) 13)) (.node (nB 0) (lA (nB 0) 13) (fA 14)))) (.node (nB 0) (.node (nB 0) (.node (nB 0) (lA (nB 0) 13) (lA (nB 0) 13)) (.node (nB 0) (lA (nB
  0) 13) (fA 14))) (.node (nB 0) (.node (nB 0) (lA (nB 0) 13) (lA (nB 0) 13)) (.node (nB 0) (lA (nB 0) 13) (fA 14))))) (.node (nB 0) (.node (nB 0) (.node (nB 0) (.node (nB 0) (lA (nB
  0) 13) (lA (nB 0) 13)) (.node (nB 0) (lA (nB 0) 13) (fA 14))) (.node (nB 0) (.node (nB 0) (lA (nB 0) 13) (lA (nB 0) 13)) (.node (nB 0) (lA (nB 0) 13) (fA 14)))) (.node (nB 0)
  (.node (nB 0) (.node (nB 0) (lA (nB 0) 13) (lA (nB 0) 13)) (.node (nB 0) (lA (nB 0) 13) (fA 14))) (.node (nB 0) (.node (nB 0) (lA (nB 0) 13) (fA 14)) (.node (nB 0) (lA (nB 0) 13)
  (fA 14)))))) (.node (nB 0) (.node (nB 0) (.node (nB 0) (.node (nB 0) (.node (nB 0) (lA (nB 0) 13) (lA (nB 0) 13)) (.node (nB 0) (lA (nB 0) 13) (fA 14))) (.node (nB 0) (.node (nB 0)
  (lA (nB 0) 13) (lA (nB 0) 13)) (.node (nB 0) (lA (nB 0) 13) (fA 14)))) (.node (nB 0) (.node (nB 0) (.node (nB 0) (lA (nB 0) 13) (lA (nB 0) 13)) (.node (nB 0) (lA (nB 0) 13) (fA
  14))) (.node (nB 0) (.node (nB 0) (lA (nB 0) 13) (lA (nB 0) 13)) (.node (nB 0) (lA (nB 0) 13) (fA 14))))) (.node (nB 0) (.node (nB 0) (.node (nB 0) (.node (nB 0) (lA (nB 0) 13) (lA
  (nB 0) 13)) (.node (nB 0) (lA (nB 0) 13) (fA 14))) (.node (nB 0) (.node (nB 0) (lA (nB 0) 13) (lA (nB 0) 13)) (.node (nB 0) (lA (nB 0) 13) (fA 14)))) (.node (nB 0) (.node (nB 0)
  (.node (nB 0) (lA (nB 0) 13) (lA (nB 0) 13)) (.node (nB 0) (lA (nB 0) 13) (fA 14))) (.node (nB 0) (.node (nB 0) (lA (nB 0) 13) (fA 14)) (.node (nB 0) (lA (nB 0) 13) (fA 14))))))))
  (.node (nB 0) (.node (nB 0) (.node (nB 0) (.node (nB 0) (.node (nB 0) (.node (nB 0) (.node (nB 0) (lA (nB 0) 13) (lA (nB 0) 13)) (.node (nB 0) (lA (nB 0) 13) (fA 14))) (.node (nB
  0) (.node (nB 0) (lA (nB 0) 13) (lA (nB 0) 13)) (.node (nB 0) (lA (nB 0) 13) (fA 14)))) (.node (nB 0) (.node (nB 0) (.node (nB 0) (lA (nB 69) 13) (lA (nB 0) 13)) (.node (nB 0) (lA
  (nB 0) 13) (fA 14))) (.node (nB 0) (.node (nB 0) (lA (nB 0) 13) (lA (nB 0) 13)) (.node (nB 0) (lA (nB 0) 13) (fA 14))))) (.node (nB 0) (.node (nB 0) (.node (nB 0) (.node (nB 0) (lA
  (nB 0) 13) (lA (nB 0) 13)) (.node (nB 0) (lA (nB 0) 13) (fA 14))) (.node (nB 0) (.node (nB 0) (lA (nB 0) 13) (lA (nB 0) 13)) (.node (nB 0) (lA (nB 0) 13) (fA 14)))) (.node (nB 0)
  (.node (nB 0) (.node (nB 0) (lA (nB 0) 13) (lA (nB 0) 13)) (.node (nB 0) (lA (nB 0) 13) (fA 14))) (.node (nB 0) (.node (nB 0) (lA (nB 0) 13) (lA (nB 0) 13)) (.node (nB 0) (lA (nB
  0) 13) (fA 14)))))) (.node (nB 0) (.node (nB 0) (.node (nB 0) (.node (nB 0) (.node (nB 0) (lA (nB 0) 13) (lA (nB 0) 13)) (.node (nB 0) (lA (nB 0) 13) (fA 14))) (.node (nB 0) (.node
  (nB 0) (lA (nB 0) 13) (lA (nB 0) 13)) (.node (nB 0) (lA (nB 0) 13) (fA 14)))) (.node (nB 0) (.node (nB 0) (.node (nB 0) (lA (nB 0) 13) (lA (nB 0) 13)) (.node (nB 0) (lA (nB 0) 13)
  (fA 14))) (.node (nB 0) (.node (nB 0) (lA (nB 0) 13) (lA (nB 0) 13)) (.node (nB 0) (lA (nB 0) 13) (fA 14))))) (.node (nB 0) (.node (nB 0) (.node (nB 0) (.node (nB 0) (lA (nB 0) 13)
  (lA (nB 0) 13)) (.node (nB 0) (lA (nB 0) 13) (fA 14))) (.node (nB 0) (.node (nB 0) (lA (nB 0) 13) (lA (nB 0) 13)) (.node (nB 0) (lA (nB 0) 13) (fA 14)))) (.node (nB 0) (.node (nB
  0) (.node (nB 0) (lA (nB 0) 13) (lA (nB 0) 13)) (.node (nB 0) (lA (nB 0) 13) (fA 14))) (.node (nB 0) (.node (nB 0) (lA (nB 0) 13) (fA 14)) (.node (nB 0) (lA (nB 0) 13) (fA
  14))))))) (.node (nB 255) (.node (nB 0) (.node (nB 0) (.node (nB 0) (.node (nB 0) (.node (nB 0) (lA (nB 0) 13) (lA (nB 0) 13)) (.node (nB 0) (lA (nB 0) 13) (fA 14))) (.node (nB 0)
  (.node (nB 0) (lA (nB 0) 13) (lA (nB 0) 13)) (.node (nB 0) (lA (nB 0) 13) (fA 14)))) (.node (nB 0) (.node (nB 0) (.node (nB 0) (lA (nB 0) 13) (lA (nB 0) 13)) (.node (nB 0) (lA (nB
  0) 13) (fA 14))) (.node (nB 0) (.node (nB 0) (lA (nB 0) 13) (lA (nB 0) 13)) (.node (nB 0) (lA (nB 0) 13) (fA 14))))) (.node (nB 0) (.node (nB 0) (.node (nB 0) (.node (nB 0) (lA (nB
  0) 13) (lA (nB 0) 13)) (.node (nB 0) (lA (nB 0) 13) (fA 14))) (.node (nB 0) (.node (nB 0) (lA (nB 0) 13) (lA (nB 0) 13)) (.node (nB 0) (lA (nB 0) 13) (fA 14)))) (.node (nB 0)
  (.node (nB 0) (.node (nB 0) (lA (nB 0) 13) (lA (nB 0) 13)) (.node (nB 0) (lA (nB 0) 13) (fA 14))) (.node (nB 0) (.node (nB 0) (lA (nB 0) 13) (fA 14)) (.node (nB 0) (lA (nB 0) 13)
  (fA 14)))))) (.node (nB 0) (.node (nB 0) (.node (nB 0) (.node (nB 0) (.node (nB 0) (lA (nB 0) 13) (lA (nB 0) 13)) (.node (nB 0) (lA (nB 0) 13) (fA 14))) (.node (nB 0) (.node (nB 0)
  (lA (nB 0) 13) (lA (nB 0) 13)) (.node (nB 0) (lA (nB 0) 13) (fA 14)))) (.node (nB 0) (.node (nB 0) (.node (nB 0) (lA (nB 0) 13) (lA (nB 0) 13)) (.node (nB 0) (lA (nB 0) 13) (fA
  14))) (.node (nB 0) (.node (nB 0) (lA (nB 0) 13) (lA (nB 0) 13)) (.node (nB 0) (lA (nB 0) 13) (fA 14))))) (.node (nB 0) (.node (nB 0) (.node (nB 0) (.node (nB 0) (lA (nB 0) 13) (lA
  (nB 0) 13)) (.node (nB 0) (lA (nB 0) 13) (fA 14))) (.node (nB 0) (.node (nB 0) (lA (nB 0) 13) (lA (nB 0) 13)) (.node (nB 0) (lA (nB 0) 13) (fA 14)))) (.node (nB 0) (.node (nB 0)
  (.node (nB 0) (lA (nB 0) 13) (lA (nB 0) 13)) (.node (nB 0) (lA (nB 0) 13) (fA 14))) (.node (nB 0) (.node (nB 0) (lA (nB 0) 13) (fA 14)) (.node (nB 0) (lA (nB 0) 13) (fA 14)))))))))
  (.node (nB 73) (.node (nB 0) (.node (nB 0) (.node (nB 0) (.node (nB 0) (.node (nB 0) (.node (nB 0) (.node (nB 0) (lA (nB 0) 13) (lA (nB 0) 13)) (.node (nB 0) (lA (nB 0) 13) (fA
  14))) (.node (nB 0) (.node (nB 0) (lA (nB 0) 13) (lA (nB 0) 13)) (.node (nB 0) (lA (nB 0) 13) (fA 14)))) (.node (nB 0) (.node (nB 0) (.node (nB 0) (lA (nB 0) 13) (lA (nB 0) 13))
  (.node (nB 0) (lA (nB 0) 13) (fA 14))) (.node (nB 0) (.node (nB 0) (lA (nB 0) 13) (lA (nB 0) 13)) (.node (nB 0) (lA (nB 0) 13) (fA 14))))) (.node (nB 0) (.node (nB 0) (.node (nB 0)
  (.node (nB 0) (lA (nB 0) 13) (lA (nB 0) 13)) (.node (nB 0) (lA (nB 0) 13) (fA 14))) (.node (nB 0) (.node (nB 0) (lA (nB 0) 13) (lA (nB 0) 13)) (.node (nB 0) (lA (nB 0) 13) (fA
  14)))) (.node (nB 0) (.node (nB 0) (.node (nB 0) (lA (nB 0) 13) (lA (nB 0) 13)) (.node (nB 0) (lA (nB 0) 13) (fA 14))) (.node (nB 0) (.node (nB 0) (lA (nB 0) 13) (lA (nB 0) 13))
  (.node (nB 0) (lA (nB 0) 13) (fA 14)))))) (.node (nB 0) (.node (nB 0) (.node (nB 0) (.node (nB 0) (.node (nB 0) (lA (nB 0) 13) (lA (nB 0) 13)) (.node (nB 0) (lA (nB 0) 13) (fA
  14))) (.node (nB 0) (.node (nB 0) (lA (nB 0) 13) (lA (nB 0) 13)) (.node (nB 0) (lA (nB 0) 13) (fA 14)))) (.node (nB 0) (.node (nB 0) (.node (nB 0) (lA (nB 0) 13) (lA (nB 0) 13))
  (.node (nB 0) (lA (nB 0) 13) (fA 14))) (.node (nB 0) (.node (nB 0) (lA (nB 0) 13) (lA (nB 0) 13)) (.node (nB 0) (lA (nB 0) 13) (fA 14))))) (.node (nB 0) (.node (nB 0) (.node (nB 0)
  (.node (nB 0) (lA (nB 0) 13) (lA (nB 0) 13)) (.node (nB 0) (lA (nB 0) 13) (fA 14))) (.node (nB 0) (.node (nB 0) (lA (nB 0) 13) (lA (nB 0) 13)) (.node (nB 0) (lA (nB 0) 13) (fA
  14)))) (.node (nB 0) (.node (nB 0) (.node (nB 0) (lA (nB 0) 13) (lA (nB 0) 13)) (.node (nB 0) (lA (nB 0) 13) (fA 14))) (.node (nB 0) (.node (nB 0) (lA (nB 0) 13) (fA 14)) (.node
  (nB 0) (lA (nB 0) 13) (fA 14))))))) (.node (nB 255) (.node (nB 0) (.node (nB 0) (.node (nB 0) (.node (nB 0) (.node (nB 0) (lA (nB 0) 13) (lA (nB 0) 13)) (.node (nB 0) (lA (nB 0)
  13) (fA 14))) (.node (nB 0) (.node (nB 0) (lA (nB 0) 13) (lA (nB 0) 13)) (.node (nB 0) (lA (nB 0) 13) (fA 14)))) (.node (nB 0) (.node (nB 0) (.node (nB 0) (lA (nB 0) 13) (lA (nB 0)
  13)) (.node (nB 0) (lA (nB 0) 13) (fA 14))) (.node (nB 0) (.node (nB 0) (lA (nB 0) 13) (lA (nB 0) 13)) (.node (nB 0) (lA (nB 0) 13) (fA 14))))) (.node (nB 0) (.node (nB 0) (.node
  (nB 0) (.node (nB 0) (lA (nB 0) 13) (lA (nB 0) 13)) (.node (nB 0) (lA (nB 0) 13) (fA 14))) (.node (nB 0) (.node (nB 0) (lA (nB 0) 13) (lA (nB 0) 13)) (.node (nB 0) (lA (nB 0) 13)
  (fA 14)))) (.node (nB 0) (.node (nB 0) (.node (nB 0) (lA (nB 0) 13) (lA (nB 0) 13)) (.node (nB 0) (lA (nB 0) 13) (fA 14))) (.node (nB 0) (.node (nB 0) (lA (nB 0) 13) (fA 14))
  (.node (nB 0) (lA (nB 0) 13) (fA 14)))))) (.node (nB 0) (.node (nB 0) (.node (nB 0) (.node (nB 0) (.node (nB 0) (lA (nB 0) 13) (lA (nB 0) 13)) (.node (nB 0) (lA (nB 0) 13) (fA
  14))) (.node (nB 0) (.node (nB 0) (lA (nB 0) 13) (lA (nB 0) 13)) (.node (nB 0) (lA (nB 0) 13) (fA 14)))) (.node (nB 0) (.node (nB 0) (.node (nB 0) (lA (nB 0) 13) (lA (nB 0) 13))
  (.node (nB 0) (lA (nB 0) 13) (fA 14))) (.node (nB 0) (.node (nB 0) (lA (nB 0) 13) (lA (nB 0) 13)) (.node (nB 0) (lA (nB 0) 13) (fA 14))))) (.node (nB 0) (.node (nB 0) (.node (nB 0)
  (.node (nB 0) (lA (nB 0) 13) (lA (nB 0) 13)) (.node (nB 0) (lA (nB 0) 13) (fA 14))) (.node (nB 0) (.node (nB 0) (lA (nB 0) 13) (lA (nB 0) 13)) (.node (nB 0) (lA (nB 0) 13) (fA
  14)))) (.node (nB 0) (.node (nB 0) (.node (nB 0) (lA (nB 0) 13) (lA (nB 0) 13)) (.node (nB 0) (lA (nB 0) 13) (fA 14))) (.node (nB 0) (.node (nB 0) (lA (nB 0) 13) (fA 14)) (.node
  (nB 0) (lA (nB 0) 13) (fA 14)))))))) (.node (nB 0) (.node (nB 0) (.node (nB 0) (.node (nB 0) (.node (nB 0) (.node (nB 0) (.node (nB 0) (lA (nB 0) 13) (lA (nB 0) 13)) (.node (nB 0)
  (lA (nB 0) 13) (fA 14))) (.node (nB 0) (.node (nB 0) (lA (nB 0) 13) (lA (nB 0) 13)) (.node (nB 0) (lA (nB 0) 13) (fA 14)))) (.node (nB 0) (.node (nB 0) (.node (nB 0) (lA (nB 69)
  13) (lA (nB 0) 13)) (.node (nB 0) (lA (nB 0) 13) (fA 14))) (.node (nB 0) (.node (nB 0) (lA (nB 0) 13) (lA (nB 0) 13)) (.node (nB 0) (lA (nB 0) 13) (fA 14))))) (.node (nB 0) (.node
  (nB 0) (.node (nB 0) (.node (nB 0) (lA (nB 0) 13) (lA (nB 0) 13)) (.node (nB 0) (lA (nB 0) 13) (fA 14))) (.node (nB 0) (.node (nB 0) (lA (nB 0) 13) (lA (nB 0) 13)) (.node (nB 0)
  (lA (nB 0) 13) (fA 14)))) (.node (nB 0) (.node (nB 0) (.node (nB 0) (lA (nB 0) 13) (lA (nB 0) 13)) (.node (nB 0) (lA (nB 0) 13) (fA 14))) (.node (nB 0) (.node (nB 0) (lA (nB 0) 13)
  (lA (nB 0) 13)) (.node (nB 0) (lA (nB 0) 13) (fA 14)))))) (.node (nB 0) (.node (nB 0) (.node (nB 0) (.node (nB 0) (.node (nB 0) (lA (nB 0) 13) (lA (nB 0) 13)) (.node (nB 0) (lA (nB
  0) 13) (fA 14))) (.node (nB 0) (.node (nB 0) (lA (nB 0) 13) (lA (nB 0) 13)) (.node (nB 0) (lA (nB 0) 13) (fA 14)))) (.node (nB 0) (.node (nB 0) (.node (nB 0) (lA (nB 0) 13) (lA (nB
  0) 13)) (.node (nB 0) (lA (nB 0) 13) (fA 14))) (.node (nB 0) (.node (nB 0) (lA (nB 0) 13) (lA (nB 0) 13)) (.node (nB 0) (lA (nB 0) 13) (fA 14))))) (.node (nB 0) (.node (nB 0)
  (.node (nB 0) (.node (nB 0) (lA (nB 0) 13) (lA (nB 0) 13)) (.node (nB 0) (lA (nB 0) 13) (fA 14))) (.node (nB 0) (.node (nB 0) (lA (nB 0) 13) (lA (nB 0) 13)) (.node (nB 0) (lA (nB
  0) 13) (fA 14)))) (.node (nB 0) (.node (nB 0) (.node (nB 0) (lA (nB 0) 13) (lA (nB 0) 13)) (.node (nB 0) (lA (nB 0) 13) (fA 14))) (.node (nB 0) (.node (nB 0) (lA (nB 0) 13) (fA
  14)) (.node (nB 0) (lA (nB 0) 13) (fA 14))))))) (.node (nB 255) (.node (nB 0) (.node (nB 0) (.node (nB 0) (.node (nB 0) (.node (nB 0) (lA (nB 0) 13) (lA (nB 0) 13)) (.node (nB 0)
  (lA (nB 0) 13) (fA 14))) (.node (nB 0) (.node (nB 0) (lA (nB 0) 13) (lA (nB 0) 13)) (.node (nB 0) (lA (nB 0) 13) (fA 14)))) (.node (nB 0) (.node (nB 0) (.node (nB 0) (lA (nB 0) 13)
  (lA (nB 0) 13)) (.node (nB 0) (lA (nB 0) 13) (fA 14))) (.node (nB 0) (.node (nB 0) (lA (nB 0) 13) (lA (nB 0) 13)) (.node (nB 0) (lA (nB 0) 13) (fA 14))))) (.node (nB 0) (.node (nB
  0) (.node (nB 0) (.node (nB 0) (lA (nB 0) 13) (lA (nB 0) 13)) (.node (nB 0) (lA (nB 0) 13) (fA 14))) (.node (nB 0) (.node (nB 0) (lA (nB 0) 13) (lA (nB 0) 13)) (.node (nB 0) (lA
  (nB 0) 13) (fA 14)))) (.node (nB 0) (.node (nB 0) (.node (nB 0) (lA (nB 0) 13) (lA (nB 0) 13)) (.node (nB 0) (lA (nB 0) 13) (fA 14))) (.node (nB 0) (.node (nB 0) (lA (nB 0) 13) (fA
  14)) (.node (nB 0) (lA (nB 0) 13) (fA 14)))))) (.node (nB 0) (.node (nB 0) (.node (nB 0) (.node (nB 0) (.node (nB 0) (lA (nB 0) 13) (lA (nB 0) 13)) (.node (nB 0) (lA (nB 0) 13) (fA
  14))) (.node (nB 0) (.node (nB 0) (lA (nB 0) 13) (lA (nB 0) 13)) (.node (nB 0) (lA (nB 0) 13) (fA 14)))) (.node (nB 0) (.node (nB 0) (.node (nB 0) (lA (nB 0) 13) (lA (nB 0) 13))
  (.node (nB 0) (lA (nB 0) 13) (fA 14))) (.node (nB 0) (.node (nB 0) (lA (nB 0) 13) (lA (nB 0) 13)) (.node (nB 0) (lA (nB 0) 13) (fA 14))))) (.node (nB 0) (.node (nB 0) (.node (nB 0)
  (.node (nB 0) (lA (nB 0) 13) (lA (nB 0) 13)) (.node (nB 0) (lA (nB 0) 13) (fA 14))) (.node (nB 0) (.node (nB 0) (lA (nB 0) 13) (lA (nB 0) 13)) (.node (nB 0) (lA (nB 0) 13) (fA
  14)))) (.node (nB 0) (.node (nB 0) (.node (nB 0) (lA (nB 0) 13) (lA (nB 0) 13)) (.node (nB 0) (lA (nB 0) 13) (fA 14))) (.node (nB 0) (.node (nB 0) (lA (nB 0) 13) (fA 14)) (.node
  (nB 0) (lA (nB 0) 13) (fA 14))))))))))) false false) 11)) (fD 13)) (fD 14)) (fD 15))))))) (.node .dead (.node .dead (.node .dead (fD 18) (lD (.cells 99 3 3 (.node .nilsl (lA .nilsl
  22) (lA (.bool false) 22)) false false) 17)) (.node .dead (.node .dead (fD 17) (.node .dead (.node .dead (fD 15) (.node .dead (fD 14) (lD (.cells 49 10 10 (.node (nI 5) (.node (nI
  0) (.node (nU 0) (lA (nU 0) 20) (fA 21)) (.node (nI 0) (lA .nilsl 20) (fA 21))) (.node (nI 0) (.node (nU 0) (lA (nI 0) 20) (fA 21)) (lA (.str (bs [])) 21))) true false) 13))) (fD
  16))) (fD 18))) (.node .dead (fD 19) (.node (.cells 5 1 64 (fB 24) true false) (.node .dead (fD 17) (.node .dead (.node .dead (.node .dead (fD 14) (.node .dead (fD 13) (.node .dead
  (lD o1 11) (fD 12)))) (fD 15)) (fD 16))) (fD 18))))) (.node .dead (.node .dead (.node .dead (.node (.cells 5 1 64 (fB 24) true false) (fD 18) (.node .dead (fD 17) (.node .dead
  (.node .dead (.node .dead (fD 14) (.node .dead (lD o1 12) (fD 13))) (fD 15)) (fD 16)))) (.node .dead (.node .dead (fD 17) (.node .dead (.node .dead (fD 15) (.node .dead (fD 14) (lD
  (.cells 106 12 12 (.node (nI 1) (.node (nI 0) (.node (nI 0) (lA (.str (bs [])) 20) (lA (nI 0) 20)) (.node (nU 0) (lA (nI 0) 20) (fA 21))) (.node (nI 0) (.node (nU 0) (lA (nU 0) 20)
  (fA 21)) (.node (nI 0) (lA .nilsl 20) (fA 21)))) true false) 13))) (fD 16))) (fD 18))) (.node .dead (fD 19) (.node .dead (.node .dead (fD 17) (.node .dead (.node .dead (.node .dead
  (fD 14) (.node .dead (fD 13) (.node .dead (lD o21 11) (fD 12)))) (fD 15)) (fD 16))) (fD 18)))) (.node .dead (.node .dead (.node .dead (.node .dead (fD 17) (.node .dead (fD 16)
  (.node .dead (fD 15) (lD o15 14)))) (fD 18)) (.node .dead (lD (.cells 31 10 10 (.node (.ptr 61 0) (.node (nI 1) (.node (nI 0) (lA .nil 20) (fA 21)) (.node (.bool false) (lA .nilfn
  20) (fA 21))) (.node (nI 1) (.node .nilsl (lA .nil 20) (fA 21)) (lA .nilsl 21))) true false) 17) (fD 18))) (.node .dead (fD 19) (.node (.cells 114 7 7 (.node (.sl 84 0 0 8 (.u 84
  0)) (.node (.sl 82 0 0 8 (.u 82 0)) (lA (nU 0) 21) (lA (nU 0) 21)) (.node (.map 60) (lA (nU 0) 21) (lA (nU 0) 21))) true false) (.node o1 (fD 17) (.node .dead (.node .dead (.node
  .dead (fD 14) (.node .dead (fD 13) (.node .dead (lD o22 11) (fD 12)))) (fD 15)) (fD 16))) (fD 18)))))) (.node .dead (.node .dead (.node .dead (.node .dead (.node .dead (.node .dead
  (fD 17) (lD (.cells 114 7 7 (.node (.sl 967 0 0 384 (.u 967 0)) (.node (.sl 965 0 0 384 (.u 965 0)) (lA (nU 384) 21) (lA (nU 0) 21)) (.node (.map 191) (lA (nU 0) 21) (lA (nU 0)
  21))) true false) 16)) (.node .dead (fD 17) (.node .dead (.node .dead (.node .dead (fD 14) (.node .dead (lD o17 12) (.node .dead (lD o15 11) (fD 12)))) (fD 15)) (fD 16)))) (fD 19))
  (.node .dead (.node .dead (.node .dead (fD 17) (.node .dead (fD 16) (.node .dead (fD 15) (lD o20 14)))) (fD 18)) (.node .dead (.node .dead (fD 17) (.node .dead (.node .dead (fD 15)
  (.node .dead (fD 14) (lD (.cells 22 1 1 (lA (.ptr 968 0) 23) true false) 13))) (fD 16))) (fD 18)))) (.node .dead (.node .dead (.node .dead (fD 18) (lD o7 17)) (.node .dead (lD
  (.cells 43 1 8 (.node (nU 0) (.node (nU 0) (.node (nU 0) (lA (nU 0) 20) (fA 21)) (lA (nU 0) 21)) (.node (nU 0) (lA (nU 0) 21) (lA (nU 0) 21))) false false) 17) (fD 18))) (.node
  .dead (fD 19) (.node (.map [] 0) (.node .dead (fD 17) (.node .dead (.node .dead (.node .dead (fD 14) (.node .dead (fD 13) (.node .dead (lD (.map [⟨(nI 1), (.fn (.func 33) [] []),
  0⟩, ⟨(nI 2), (.fn (.func 34) [] []), 1⟩, ⟨(nI 3), (.fn (.func 35) [] []), 2⟩, ⟨(nI 4), (.fn (.func 36) [] []), 3⟩, ⟨(nI 5), (.fn (.func 37) [] []), 4⟩, ⟨(nI 6), (.fn (.func 38) []
  []), 5⟩, ⟨(nI 7), (.fn (.func 39) [] []), 6⟩] 7) 11) (fD 12)))) (fD 15)) (fD 16))) (fD 18))))) (.node o1 (.node .dead (.node .dead (fD 19) (.node .dead (.node (.cells 43 1 8 (.node
  (nU 0) (.node (nU 0) (.node (nU 0) (lA (nU 0) 20) (fA 21)) (lA (nU 0) 21)) (.node (nU 0) (lA (nU 0) 21) (lA (nU 0) 21))) false false) (fD 17) (.node .dead (.node .dead (fD 15)
  (.node .dead (fD 14) (lD (.cells 106 12 12 (.node (nI 1) (.node (nI 0) (.node (nI 0) (lA (.str (bs [])) 20) (lA (nI 0) 20)) (.node (nU 0) (lA (nI 0) 20) (fA 21))) (.node (nI 0)
  (.node (nU 0) (lA (nU 0) 20) (fA 21)) (.node (nI 0) (lA .nilsl 20) (fA 21)))) true false) 13))) (fD 16))) (fD 18))) (.node .dead (fD 19) (.node .dead (.node .dead (fD 17) (.node
  .dead (.node .dead (.node .dead (fD 14) (.node .dead (fD 13) (.node .dead (lD (.cells 49 10 10 (.node (nI 7) (.node (nI 0) (.node (nU 0) (lA (nU 0) 20) (fA 21)) (.node (nI 0) (lA
  .nilsl 20) (fA 21))) (.node (nI 0) (.node (nU 0) (lA (nI 0) 20) (fA 21)) (lA (.str (bs [])) 21))) true false) 11) (fD 12)))) (.node .dead (fD 14) (lD o25 13))) (fD 16))) (fD 18))))
  (.node .dead (.node .dead (fD 19) (.node .dead (fD 18) (.node .dead (fD 17) (.node .dead (fD 16) (.node .dead (.node .dead (.node .dead (.node .dead (fD 12) (lD (.cells 147 8 8
  (.node (nB 0) (.node (nB 0) (.node (nB 0) (lA (nB 0) 20) (fA 21)) (lA (nB 0) 21)) (.node (nB 0) (lA (nB 0) 21) (lA (nB 0) 21))) true false) 11)) (fD 13)) (fD 14)) (fD 15))))))
  (.node .dead (fD 19) (.node .dead (.node .dead (fD 17) (.node .dead (.node .dead (.node .dead (fD 14) (.node .dead (lD o19 12) (.node .dead (lD (.cells 49 10 10 (.node (nI 7)
  (.node (nI 0) (.node (nU 0) (lA (nU 0) 20) (fA 21)) (.node (nI 0) (lA .nilsl 20) (fA 21))) (.node (nI 0) (.node (nU 0) (lA (nI 0) 20) (fA 21)) (lA (.str (bs [])) 21))) true false)
  11) (fD 12)))) (fD 15)) (fD 16))) (fD 18))))))), 6392⟩,
  [.code (codeAt Tryz.f170 [1, 1, 0, 1, 0, 0, 1]), .lp (codeAt Tryz.f170 [1, 1, 0, 1, 0, 0]), .blk 0, .code (codeAt
  Tryz.f170 [1, 1, 1])]⟩
end Go.Proofs.YtakcddbpblookaaGreat.engineNil
