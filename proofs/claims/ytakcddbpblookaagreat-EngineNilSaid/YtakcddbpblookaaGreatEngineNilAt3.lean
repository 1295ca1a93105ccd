/-
  MADE HERE: the states between the parts of the run (printed by a program).
  Conditions: none.
-/
import Derived.Test.YtakcddbpblookaaGreatEngineNilAt2
namespace Go.Proofs.YtakcddbpblookaaGreat.engineNil
open Go.Lev
noncomputable def o46 : Fr :=
  ⟨15, 83, [], .normal, none, .run, (.node (.bool false) (.node (.sl 100 0 0 3072 (.k 3072)) (.node (.ptr 968 0) (.node (.tup [(.sl 100 0 0 3072 (.k 3072)), (nI 0)]) (.node (nI 0)
  (lU (nI 3) 18) (fU 19)) (lU (.ptr 968 0) 19)) (.node (.tup [(.ptr 968 0), (nI 0)]) (.node (nI 0) (lU (.agg [(nI 1), (nI 0), (nI 2), (nU 5), (nU 0), (nI 0), (.str (bs [])), (nU 0),
  (nI 0), .nilsl]) 18) (fU 19)) (lU (.agg [(nI 1), (nI 0), (nI 0), (nI 0), (nU 0), (nU 0), (nI 0), (.str (bs [])), (nU 0), (nI 0), .nilsl, (nI 0)]) 19))) (.node (nI 3) (.node (.sl
  100 0 0 3072 (.k 3072)) (.node (.bool false) (lU (.agg [(nI 2), (nI 0), (nI 0), (nI 0), (nU 0), (nU 0), (nI 0), (.str (bs [])), (nU 0), (nI 0), .nilsl, (nI 0)]) 18) (fU 19)) (lU
  (.bool false) 19)) (.node (.tup [(.ptr 968 0), (nI 0)]) (.node (.bool false) (lU (.agg [(nI 4), (nI 0), (nI 0), (nI 0), (nU 0), (nU 0), (nI 0), (.str (bs [])), (nU 0), (nI 0),
  .nilsl, (nI 400)]) 18) (fU 19)) (fU 20)))) (.node (nI 0) (.node (nI 0) (.node (.tup [(.sl 100 0 0 3072 (.k 3072)), (nI 0)]) (.node (nI 0) (lU (.ptr 968 0) 18) (fU 19)) (lU (.bool
  false) 19)) (.node (.sl 100 0 0 3072 (.k 3072)) (.node (.bool false) (lU (.agg [(nI 0), (nI 1), (nI 0), (nI 2), (nU 5), (nU 0), (nI 0), (.str (bs [])), (nU 0), (nI 0), .nilsl, (nI
  0)]) 18) (fU 19)) (lU (.sl 1873 0 0 1 (.k 1)) 19))) (.node undefV (.node (nI 0) (.node (.bool false) (lU (.agg [(nI 2), (nU 5), (nU 0), (nI 0), (.str (bs []))]) 18) (fU 19)) (lU
  (.ptr 968 0) 19)) (.node (.ptr 968 0) (.node (.bool false) (lU (.sl 9019 0 0 3 (.k 3)) 18) (fU 19)) (lU (.ptr 968 0) 19))))), [.reg (opsAt Tryz.f15 [1, 1, 1, 1, 1, 1, 0]) ((opsAt
  Tryz.f15 [1, 1, 1, 1, 1, 1, 0]).toList.drop 7), .code (codeAt Tryz.f15 [1, 1, 1, 1, 1, 1, 1])]⟩
noncomputable def o44 : Ob :=
  (.cells 106 12 36 (.node (nI 2) (.node (nI 0) (.node (nI 0) (.node (.str (bs [])) (.node (nI 2) (lA (.str (bs [])) 18) (fA 19)) (lA (nI 0) 19)) (.node (nI 0) (.node (.str (bs []))
  (lA (nI 400) 18) (fA 19)) (lA (nI 0) 19))) (.node (nU 0) (.node (nI 0) (.node (nU 0) (lA (nI 0) 18) (fA 19)) (lA (nI 0) 19)) (.node (nI 1) (lA (nI 0) 19) (lA (nU 0) 19)))) (.node
  (nI 0) (.node (nU 0) (.node (nU 0) (.node (nU 5) (lA (nU 0) 18) (fA 19)) (lA (nI 4) 19)) (.node (nI 0) (lA (nU 0) 19) (lA (nU 0) 19))) (.node (nI 0) (.node .nilsl (.node (nI 0) (lA
  .nilsl 18) (fA 19)) (lA (nI 0) 19)) (.node (nI 0) (lA .nilsl 19) (lA (nI 0) 19))))) true false)
noncomputable def o45 : Ob :=
  (.cells 216 66 66 (.node (nI 1) (.node (.map 9013) (.node (nU 0) (.node (nU 0) (.node (nU 0) (.node (nU 0) (lA (nU 0) 17) (fA 18)) (lA (nU 0) 18)) (.node (nU 0) (lA (nU 0) 18) (lA
  (nU 0) 18))) (.node (nU 0) (.node (nU 0) (lA (nU 0) 18) (lA (nU 0) 18)) (.node (nU 0) (lA (nU 0) 18) (lA (nU 0) 18)))) (.node (nU 0) (.node (nU 0) (.node (nU 0) (.node (nU 0) (lA
  (nU 0) 17) (fA 18)) (lA (nU 0) 18)) (.node (nU 0) (lA (nU 0) 18) (lA (nU 0) 18))) (.node (nU 0) (.node (nU 0) (lA (nU 0) 18) (lA (nU 0) 18)) (.node (nU 0) (lA (nU 0) 18) (lA (nU 0)
  18))))) (.node (nU 0) (.node (nU 0) (.node (nU 0) (.node (nU 0) (.node (nU 0) (lA (nU 0) 17) (fA 18)) (lA (nU 0) 18)) (.node (nU 0) (lA (nU 0) 18) (lA (nU 0) 18))) (.node (nU 0)
  (.node (nU 0) (lA (nU 0) 18) (lA (nU 0) 18)) (.node (nU 0) (lA (nU 0) 18) (lA (nU 0) 18)))) (.node (nU 0) (.node (nU 0) (.node (nU 0) (lA (nU 0) 18) (lA (nU 0) 18)) (.node (nU 0)
  (lA (nU 0) 18) (lA (nU 0) 18))) (.node (nU 0) (.node (nU 0) (lA (nU 0) 18) (lA (nU 0) 18)) (.node (nU 0) (lA (nU 0) 18) (lA (nU 0) 18)))))) true false)
/-- where the run stands at the end of part 22 -/
noncomputable def s22 : St :=
  ⟨⟨32, 104, [], .normal, none,
  [o46,
    o6]⟩,
  .run,
  (.node (.ptr 968 0) (.node (.sl 9019 0 0 3 (.k 3)) (.node undefV (.node undefV (lU (nI 3) 19) (fU 20)) (.node undefV (lU
  (.sl 9019 0 0 3 (.k 3)) 19) (fU 20))) (.node (.ptr 9020 0) (fU 21) (.node (nI 0) (lU (.ptr 9019 0) 19) (fU 20)))) (.node undefV (.node (nI 0) (.node undefV (lU (.bool true) 19) (fU
  20)) (.node undefV (lU (nI 0) 19) (fU 20))) (.node undefV (fU 21) (.node (.sl 9019 0 0 3 (.k 3)) (lU (.agg [(nI 2), (nI 0), (nI 0), (nI 0), (nU 0), (nU 0), (nI 0), (.str (bs [])),
  (nU 0), (nI 0), .nilsl, (nI 0)]) 19) (fU 20))))),
  ⟨(.node (.cells 31 10 10 (.node .nil (.node (nI 0) (.node (nI 0) (lA .nil 20) (fA 21)) (.node (.bool false) (lA .nilfn 20) (fA
  21))) (.node (nI 0) (.node .nilsl (lA .nil 20) (fA 21)) (lA .nilsl 21))) true false) (.node .dead (.node o1 (.node (.cells 5 1 64 (fB 24) true false) (.node .dead (.node .dead
  (.node .dead (fD 17) (lD (.map [] 0) 16)) (.node .dead (fD 17) (.node .dead (.node .dead (.node .dead (fD 14) (.node .dead (lD (.cells 167 1 1 (lA (.ptr 1882 0) 23) true false) 12)
  (fD 13))) (fD 15)) (fD 16)))) (.node .dead (fD 18) (.node .dead (fD 17) (.node .dead (fD 16) (.node .dead (.node .dead (fD 14) (.node .dead (.node .dead (.node .dead (lD (.cells
  348 1 1 (lA (.sl 8989 0 0 4 (.u 8989 0)) 23) true false) 10) (fD 11)) (fD 12)) (fD 13))) (fD 15)))))) (.node .dead (.node .dead (.node .dead (fD 17) (.node .dead (fD 16) (.node
  .dead (fD 15) (lD o15 14)))) (fD 18)) (.node .dead (fD 18) (.node .dead (.node .dead (.node .dead (fD 15) (.node .dead (fD 14) (.node .dead (.node .dead (.node .dead (lD (.cells
  211 3 3 (.node (.ptr 192 0) (lA (.ptr 8938 0) 22) (lA (.ptr 9014 0) 22)) true false) 10) (fD 11)) (fD 12)) (fD 13)))) (fD 16)) (fD 17))))) (.node .dead (.node .dead (.node .dead
  (fD 18) (lD (.cells 99 3 3 (.node .nilsl (lA .nilsl 22) (lA (.bool false) 22)) false false) 17)) (fD 19)) (.node .dead (fD 19) (.node (.cells 5 1 64 (fB 24) true false) (fD 18)
  (.node .dead (.node .dead (.node .dead (fD 15) (.node .dead (fD 14) (.node .dead (.node .dead (.node .dead (lD o44 10) (fD 11)) (fD 12)) (fD 13)))) (fD 16)) (fD 17)))))) (.node
  .dead (.node .dead (.node .dead (lD (.cells 5 1 64 (fB 24) true false) 18) (.node .dead (.node .dead (fD 17) (.node .dead (.node .dead (fD 15) (.node .dead (fD 14) (lD (.cells 106
  12 12 (.node (nI 1) (.node (nI 0) (.node (nI 0) (lA (.str (bs [])) 20) (lA (nI 0) 20)) (.node (nU 0) (lA (nI 0) 20) (fA 21))) (.node (nI 0) (.node (nU 0) (lA (nU 0) 20) (fA 21))
  (.node (nI 0) (lA .nilsl 20) (fA 21)))) true false) 13))) (fD 16))) (fD 18))) (.node .dead (.node .dead (fD 18) (.node .dead (fD 17) (.node .dead (fD 16) (.node .dead (.node .dead
  (fD 14) (.node .dead (.node .dead (.node .dead (lD (.map [⟨(nU 1088), (nI 2), 0⟩] 1) 10) (fD 11)) (fD 12)) (fD 13))) (fD 15))))) (.node .dead (fD 18) (.node .dead (.node .dead
  (.node .dead (fD 15) (.node .dead (fD 14) (.node .dead (.node .dead (.node .dead (lD (.cells 198 4 4 (.node (.ptr 9015 0) (.node (.sl 9016 0 0 1 (.k 1)) (lA (nI 0) 21) (fA 22)) (lA
  .nilsl 22)) true false) 10) (fD 11)) (fD 12)) (fD 13)))) (fD 16)) (fD 17))))) (.node .dead (.node .dead (.node .dead (.node .dead (fD 17) (.node .dead (fD 16) (.node .dead (fD 15)
  (lD o15 14)))) (fD 18)) (.node .dead (lD (.cells 31 10 10 (.node (.ptr 61 0) (.node (nI 1) (.node (nI 0) (lA .nil 20) (fA 21)) (.node (.bool false) (lA .nilfn 20) (fA 21))) (.node
  (nI 1) (.node .nilsl (lA .nil 20) (fA 21)) (lA .nilsl 21))) true false) 17) (.node .dead (.node .dead (.node .dead (fD 15) (.node .dead (fD 14) (.node .dead (.node .dead (.node
  .dead (lD (.map [] 0) 10) (fD 11)) (fD 12)) (fD 13)))) (fD 16)) (fD 17)))) (.node .dead (.node .dead (fD 18) (.node .dead (fD 17) (.node .dead (fD 16) (.node .dead (.node .dead (fD
  14) (.node .dead (.node .dead (.node .dead (lD (.cells 348 1 1 (lA .nilsl 23) true false) 10) (fD 11)) (fD 12)) (fD 13))) (fD 15))))) (.node (.cells 114 7 7 (.node (.sl 84 0 0 8
  (.u 84 0)) (.node (.sl 82 0 0 8 (.u 82 0)) (lA (nU 0) 21) (lA (nU 0) 21)) (.node (.map 60) (lA (nU 0) 21) (lA (nU 0) 21))) true false) (.node o1 (.node .dead (.node .dead (fD 15)
  (.node .dead (fD 14) (.node .dead (.node .dead (.node .dead (lD (.cells 46 1 5 (.node (nU 1280) (.node (nU 1664) (lA (nU 1856) 21) (fA 22)) (.node (nU 1472) (lA (nU 1088) 21) (fA
  22))) false false) 10) (fD 11)) (fD 12)) (fD 13)))) (fD 16)) (fD 17)) (fD 18)))))) (.node .dead (.node .dead (.node .dead (.node .dead (.node .dead (.node .dead (fD 17) (lD (.cells
  114 7 7 (.node (.sl 967 0 0 384 (.u 967 0)) (.node (.sl 965 0 0 384 (.u 965 0)) (lA (nU 384) 21) (lA (nU 0) 21)) (.node (.map 191) (lA (nU 0) 21) (lA (nU 0) 21))) true false) 16))
  (.node .dead (fD 17) (.node .dead (.node .dead (.node .dead (fD 14) (.node .dead (fD 13) (.node .dead (lD o15 11) (fD 12)))) (fD 15)) (fD 16)))) (fD 19)) (.node .dead (.node .dead
  (.node .dead (fD 17) (.node .dead (fD 16) (.node .dead (fD 15) (lD (.cells 31 10 10 (.node (.ptr 192 0) (.node (nI 1) (.node (nI 385) (lA (.ptr 9015 0) 20) (fA 21)) (.node (.bool
  true) (lA (.fn (.func 72) [] [(.ptr 2655 0), (.ptr 1880 0)]) 20) (fA 21))) (.node (nI 3) (.node .nilsl (lA (.ptr 9017 0) 20) (fA 21)) (lA .nilsl 21))) true false) 14)))) (.node
  .dead (fD 17) (.node .dead (fD 16) (.node .dead (.node .dead (fD 14) (.node .dead (.node .dead (.node .dead (lD (.cells 298 2 6 (.node (nI 0) (.node (nU 0) (lA (nU 1) 21) (lA (nU
  0) 21)) (.node (nI 3) (lA (nI 0) 21) (fA 22))) true false) 10) (fD 11)) (fD 12)) (fD 13))) (fD 15))))) (.node .dead (.node .dead (fD 17) (.node .dead (.node .dead (fD 15) (.node
  .dead (fD 14) (lD (.cells 22 1 1 (lA (.ptr 968 0) 23) true false) 13))) (fD 16))) (.node .dead (.node .dead (.node .dead (fD 15) (.node .dead (fD 14) (.node .dead (.node .dead
  (.node .dead (lD (.cells 204 2 2 (.node .nilif (lA (nI 0) 22) (fA 23)) true false) 10) (fD 11)) (fD 12)) (fD 13)))) (fD 16)) (fD 17))))) (.node .dead (.node .dead (.node .dead (fD
  18) (lD o7 17)) (.node .dead (lD (.cells 43 1 8 (.node (nU 0) (.node (nU 0) (.node (nU 0) (lA (nU 0) 20) (fA 21)) (lA (nU 0) 21)) (.node (nU 0) (lA (nU 0) 21) (lA (nU 0) 21)))
  false false) 17) (fD 18))) (.node .dead (.node .dead (.node .dead (fD 17) (.node .dead (.node .dead (.node .dead (fD 14) (.node .dead (fD 13) (.node .dead (fD 12) (lD (.cells 46 1
  1 (lA (nU 1088) 23) false false) 11)))) (fD 15)) (fD 16))) (.node .dead (fD 17) (.node .dead (fD 16) (.node .dead (.node .dead (fD 14) (.node .dead (.node .dead (.node .dead (lD
  (.cells 348 1 1 (lA .nilsl 23) true false) 10) (fD 11)) (fD 12)) (fD 13))) (fD 15))))) (.node (.map [] 0) (fD 18) (.node .dead (.node .dead (.node .dead (fD 15) (.node .dead (fD
  14) (.node .dead (.node .dead (.node .dead (lD (.cells 106 12 12 (.node (nI 2) (.node (nI 0) (.node (nI 0) (lA (.str (bs [])) 20) (lA (nI 0) 20)) (.node (nU 0) (lA (nI 0) 20) (fA
  21))) (.node (nI 0) (.node (nU 0) (lA (nU 0) 20) (fA 21)) (.node (nI 0) (lA .nilsl 20) (fA 21)))) true false) 10) (fD 11)) (fD 12)) (fD 13)))) (fD 16)) (fD 17)))))) (.node o1
  (.node .dead (.node .dead (fD 19) (.node .dead (lD (.cells 43 1 8 (.node (nU 0) (.node (nU 0) (.node (nU 0) (lA (nU 0) 20) (fA 21)) (lA (nU 0) 21)) (.node (nU 0) (lA (nU 0) 21) (lA
  (nU 0) 21))) false false) 17) (fD 18))) (.node .dead (.node .dead (fD 18) (.node .dead (fD 17) (.node .dead (fD 16) (.node .dead (.node .dead (fD 14) (.node .dead (.node .dead
  (.node .dead (lD (.cells 294 7 7 (.node (nI 3072) (.node (.sl 8936 0 0 3 (.k 3)) (lA (.ptr 8941 0) 21) (lA (.ptr 8943 0) 21)) (.node (.ptr 8940 0) (lA (.ptr 8942 0) 21) (lA (.map
  8937) 21))) true false) 10) (fD 11)) (fD 12)) (fD 13))) (fD 15))))) (.node .dead (.node .dead (fD 17) (.node .dead (.node .dead (fD 15) (.node .dead (fD 14) (lD o41 13))) (fD 16)))
  (fD 18)))) (.node .dead (.node .dead (fD 19) (.node .dead (fD 18) (.node .dead (.node .dead (.node .dead (fD 15) (.node .dead (fD 14) (.node .dead (.node .dead (.node .dead (lD o45
  10) (fD 11)) (fD 12)) (fD 13)))) (fD 16)) (fD 17)))) (.node .dead (.node .dead (fD 18) (.node .dead (fD 17) (.node .dead (fD 16) (.node .dead (.node .dead (fD 14) (.node .dead
  (.node .dead (.node .dead (lD (.cells 348 1 1 (lA .nilsl 23) true false) 10) (fD 11)) (fD 12)) (fD 13))) (fD 15))))) (.node .dead (.node .dead (fD 17) (.node .dead (.node .dead
  (.node .dead (fD 14) (.node .dead (lD o19 12) (fD 13))) (fD 15)) (fD 16))) (fD 18))))))), 9021⟩,
  [.code (codeAt Tryz.f32 [1, 0, 0, 1, 0, 0, 1]), .blk 1, .code (codeAt Tryz.f32
  [1, 0, 0, 1, 1]), .lp (codeAt Tryz.f32 [1, 0, 0]), .blk 0]⟩
noncomputable def o48 : Fr :=
  ⟨32, 104, [], .normal, none, .run, (.node (.ptr 968 0) (.node (.sl 9019 0 0 3 (.k 3)) (.node undefV (.node (.ptr 9805 0) (.node (nI 3) (lU (.bool true) 18) (lU (.ptr 968 0) 18))
  (.node (.ptr 9020 0) (lU (.tup [(.agg [(nI 385), (nI 6), (nI 4), (nI 0), (nI 0), (nI 0), (.bool false), (nI 0), (.str (bs [])), .nilsl, (.bool false), (nI 0), (nI 0)]), (nI 0)])
  18) (fU 19))) (.node undefV (.node (.sl 9019 0 0 3 (.k 3)) (lU (.ptr 9020 0) 18) (fU 19)) (.node undefV (lU (.agg [(nI 385), (nI 6), (nI 4), (nI 0), (nI 0), (nI 0), (.bool false),
  (nI 0), (.str (bs [])), .nilsl, (.bool false), (nI 0), (nI 0)]) 18) (fU 19)))) (.node (.ptr 9020 0) (.node undefV (.node undefV (lU (.bool true) 18) (lU (nI 3136) 18)) (.node
  (.bool false) (lU (.agg [(nI 6), (nI 0), (nI 0), (nU 0), (nU 0), (nI 0), (.str (bs [])), (nU 0), (nI 0), .nilsl]) 18) (fU 19))) (.node (nI 0) (.node (.ptr 9019 0) (lU (.bool true)
  18) (fU 19)) (.node undefV (lU (nI 0) 18) (fU 19))))) (.node undefV (.node (nI 0) (.node (nI 0) (.node (.bool true) (lU (.bool false) 18) (lU (.ptr 968 0) 18)) (.node (nI 2) (lU
  (.ptr 968 0) 18) (fU 19))) (.node undefV (.node (nI 0) (lU (nI 2) 18) (fU 19)) (.node undefV (lU (nI 0) 18) (fU 19)))) (.node (.ptr 9021 0) (.node undefV (.node undefV (lU (.agg
  [(nI 5), (nI 0), (nI 0), (nU 0), (nU 0), (nI 0), (.str (bs [])), (nU 0), (nI 0), .nilsl]) 18) (fU 19)) (.node (.bool false) (lU (.tup [(.agg [(nI 385), (nI 6), (nI 4), (nI 0), (nI
  0), (nI 0), (.bool false), (nI 0), (.str (bs [])), .nilsl, (.bool false), (nI 0), (nI 0)]), (nI 0)]) 18) (fU 19))) (.node (.sl 9019 0 0 3 (.k 3)) (.node (.agg [(nI 2), (nI 0), (nI
  0), (nI 0), (nU 0), (nU 0), (nI 0), (.str (bs [])), (nU 0), (nI 0), .nilsl, (nI 0)]) (lU (.ptr 9021 0) 18) (fU 19)) (.node undefV (lU (.bool true) 18) (fU 19)))))), [.reg (opsAt
  Tryz.f32 [1, 0, 0, 1, 0, 0, 1, 1, 0, 1, 1, 1, 0, 1, 1, 1, 1, 0]) ((opsAt Tryz.f32 [1, 0, 0, 1, 0, 0, 1, 1, 0, 1, 1, 1, 0, 1, 1, 1, 1, 0]).toList.drop 3), .blk 2, .blk 1, .code
  (codeAt Tryz.f32 [1, 0, 0, 1, 1]), .lp (codeAt Tryz.f32 [1, 0, 0]), .blk 0]⟩
noncomputable def o47 : Ob :=
  (.cells 39 13 13 (.node (nI 385) (.node (nI 6) (.node (nI 0) (lA (nI 0) 20) (lA (nI 0) 20)) (.node (nI 0) (lA .nilsl 20) (fA 21))) (.node (nI 4) (.node (nI 0) (lA (.str (bs []))
  20) (lA (nI 0) 20)) (.node (.bool false) (lA (.bool false) 20) (fA 21)))) true false)
/-- where the run stands at the end of part 23 -/
noncomputable def s23 : St :=
  ⟨⟨58, 27, [], .normal, none,
  [o48,
    o46,
    o6]⟩,
  .run,
  (.node (.ptr 968 0) (.node (nI 3136) (.node undefV (.node (.ptr 10030 0) (lU (.ptr 968 0) 19) (lU (.ptr 10030 10)
  19)) (.node (.bool true) (lU (nI 0) 19) (fU 20))) (.node (.bool false) (.node (nI 28) (lU (.tup [(.agg [(nI 413), (nI 7), (nI 4), (nI 0), (nI 0), (nI 0), (.bool false), (nI 0),
  (.str (bs [])), .nilsl, (.bool false), (nI 0), (nI 0)]), (nI 0)]) 19) (fU 20)) (.node (nI 28) (lU (.bool false) 19) (fU 20)))) (.node undefV (.node (.ptr 9806 0) (.node (nI 0) (lU
  (.agg [(nI 7), (nI 0), (nI 0), (nU 0), (nU 0), (nI 0), (.str (bs [])), (nU 0), (nI 0), .nilsl]) 19) (lU (.bool false) 19)) (.node (nI 27) (lU (nI 0) 19) (fU 20))) (.node (nI 28)
  (.node (nI 3136) (lU (.agg [(nI 413), (nI 7), (nI 4), (nI 0), (nI 0), (nI 0), (.bool false), (nI 0), (.str (bs [])), .nilsl, (.bool false), (nI 0), (nI 0)]) 19) (fU 20)) (lU (.tup
  [(.agg [(nI 413), (nI 7), (nI 4), (nI 0), (nI 0), (nI 0), (.bool false), (nI 0), (.str (bs [])), .nilsl, (.bool false), (nI 0), (nI 0)]), (nI 0)]) 20)))),
  ⟨(.node (.cells 31 10
  10 (.node .nil (.node (nI 0) (.node (nI 0) (lA .nil 20) (fA 21)) (.node (.bool false) (lA .nilfn 20) (fA 21))) (.node (nI 0) (.node .nilsl (lA .nil 20) (fA 21)) (lA .nilsl 21)))
  true false) (.node .dead (.node o1 (.node (.cells 5 1 64 (fB 24) true false) (.node .dead (.node .dead (.node .dead (fD 17) (lD (.map [] 0) 16)) (fD 18)) (.node .dead (fD 18)
  (.node .dead (fD 17) (.node .dead (fD 16) (.node .dead (.node .dead (fD 14) (.node .dead (.node .dead (.node .dead (lD (.cells 348 1 1 (lA (.sl 8989 0 0 4 (.u 8989 0)) 23) true
  false) 10) (fD 11)) (fD 12)) (fD 13))) (fD 15)))))) (.node .dead (.node .dead (.node .dead (fD 17) (.node .dead (fD 16) (.node .dead (fD 15) (lD o15 14)))) (fD 18)) (.node .dead
  (fD 18) (.node .dead (.node .dead (.node .dead (fD 15) (.node .dead (fD 14) (.node .dead (.node .dead (.node .dead (lD (.cells 211 3 3 (.node (.ptr 192 0) (lA (.ptr 8938 0) 22) (lA
  (.ptr 9014 0) 22)) true false) 10) (fD 11)) (fD 12)) (fD 13)))) (fD 16)) (fD 17))))) (.node .dead (.node .dead (.node .dead (fD 18) (lD (.cells 99 3 3 (.node .nilsl (lA .nilsl 22)
  (lA (.bool false) 22)) false false) 17)) (fD 19)) (.node .dead (.node .dead (.node .dead (fD 17) (.node .dead (.node .dead (.node .dead (fD 14) (.node .dead (fD 13) (.node .dead
  (.node .dead (lD (.cells 242 9 9 (.node (.ptr 9015 0) (.node (.ptr 9030 0) (.node (.fn (.func 126) [(.ptr 9803 0)] []) (lA (.bool false) 20) (fA 21)) (lA .nilsl 21)) (.node .nil
  (.node .nilsl (lA (nI 0) 20) (fA 21)) (lA .nilsl 21))) true false) 10) (fD 11)) (fD 12)))) (fD 15)) (fD 16))) (fD 18)) (.node (.cells 5 1 64 (fB 24) true false) (fD 18) (.node
  .dead (.node .dead (.node .dead (fD 15) (.node .dead (fD 14) (.node .dead (.node .dead (.node .dead (lD o44 10) (fD 11)) (fD 12)) (fD 13)))) (fD 16)) (fD 17)))))) (.node .dead
  (.node .dead (.node .dead (lD (.cells 5 1 64 (fB 24) true false) 18) (.node .dead (.node .dead (fD 17) (.node .dead (.node .dead (fD 15) (.node .dead (fD 14) (lD (.cells 106 12 12
  (.node (nI 1) (.node (nI 0) (.node (nI 0) (lA (.str (bs [])) 20) (lA (nI 0) 20)) (.node (nU 0) (lA (nI 0) 20) (fA 21))) (.node (nI 0) (.node (nU 0) (lA (nU 0) 20) (fA 21)) (.node
  (nI 0) (lA .nilsl 20) (fA 21)))) true false) 13))) (fD 16))) (fD 18))) (.node .dead (.node .dead (fD 18) (.node .dead (fD 17) (.node .dead (fD 16) (.node .dead (.node .dead (fD 14)
  (.node .dead (.node .dead (.node .dead (lD (.map [⟨(nU 1088), (nI 2), 0⟩] 1) 10) (fD 11)) (fD 12)) (fD 13))) (fD 15))))) (.node .dead (fD 18) (.node .dead (.node .dead (.node .dead
  (fD 15) (.node .dead (fD 14) (.node .dead (.node .dead (.node .dead (lD (.cells 198 4 4 (.node (.ptr 9015 0) (.node (.sl 9016 0 0 1 (.k 1)) (lA (nI 0) 21) (fA 22)) (lA .nilsl 22))
  true false) 10) (fD 11)) (fD 12)) (fD 13)))) (fD 16)) (fD 17))))) (.node .dead (.node .dead (.node .dead (.node .dead (fD 17) (.node .dead (fD 16) (.node .dead (fD 15) (lD o15
  14)))) (fD 18)) (.node .dead (lD (.cells 31 10 10 (.node (.ptr 61 0) (.node (nI 1) (.node (nI 0) (lA .nil 20) (fA 21)) (.node (.bool false) (lA .nilfn 20) (fA 21))) (.node (nI 1)
  (.node .nilsl (lA .nil 20) (fA 21)) (lA .nilsl 21))) true false) 17) (.node .dead (.node .dead (.node .dead (fD 15) (.node .dead (fD 14) (.node .dead (.node .dead (.node .dead (lD
  (.map [] 0) 10) (fD 11)) (fD 12)) (fD 13)))) (fD 16)) (fD 17)))) (.node .dead (.node .dead (.node .dead (fD 17) (.node .dead (.node .dead (.node .dead (fD 14) (.node .dead (fD 13)
  (.node .dead (.node .dead (lD o47 10) (fD 11)) (fD 12)))) (fD 15)) (fD 16))) (.node .dead (.node .dead (.node .dead (fD 15) (.node .dead (fD 14) (.node .dead (fD 13) (.node .dead
  (.node .dead (lD (.cells 43 1 28 (.node (nU 5929342154728227142) (.node (nU 3072) (.node (nU 18446744073709548543) (.node (nU 0) (lA (nU 0) 19) (lA (nU 0) 19)) (.node (nU 0) (lA
  (nU 0) 19) (lA (nU 0) 19))) (.node (nU 0) (.node (nU 0) (lA (nU 0) 19) (lA (nU 0) 19)) (.node (nU 0) (lA (nU 0) 19) (fA 20)))) (.node (nU 1088) (.node (nU 0) (.node (nU 0) (lA (nU
  0) 19) (lA (nU 0) 19)) (.node (nU 0) (lA (nU 0) 19) (fA 20))) (.node (nU 0) (.node (nU 0) (lA (nU 0) 19) (lA (nU 0) 19)) (.node (nU 0) (lA (nU 0) 19) (fA 20))))) false false) 10)
  (fD 11)) (fD 12))))) (fD 16)) (.node .dead (fD 16) (.node .dead (.node .dead (fD 14) (.node .dead (.node .dead (.node .dead (lD (.cells 348 1 1 (lA .nilsl 23) true false) 10) (fD
  11)) (fD 12)) (fD 13))) (fD 15))))) (.node (.cells 114 7 7 (.node (.sl 84 0 0 8 (.u 84 0)) (.node (.sl 82 0 0 8 (.u 82 0)) (lA (nU 0) 21) (lA (nU 0) 21)) (.node (.map 60) (lA (nU
  0) 21) (lA (nU 0) 21))) true false) (.node o1 (.node .dead (.node .dead (fD 15) (.node .dead (fD 14) (.node .dead (.node .dead (.node .dead (lD (.cells 46 1 5 (.node (nU 1280)
  (.node (nU 1664) (lA (nU 1856) 21) (fA 22)) (.node (nU 1472) (lA (nU 1088) 21) (fA 22))) false false) 10) (fD 11)) (fD 12)) (fD 13)))) (fD 16)) (fD 17)) (.node .dead (.node .dead
  (.node .dead (fD 15) (.node .dead (fD 14) (.node .dead (.node .dead (.node .dead (lD (.cells 49 10 10 (.node (nI 6) (.node (nI 0) (.node (nU 0) (lA (nU 0) 20) (fA 21)) (.node (nI
  0) (lA .nilsl 20) (fA 21))) (.node (nI 0) (.node (nU 0) (lA (nI 0) 20) (fA 21)) (lA (.str (bs [])) 21))) true false) 10) (fD 11)) (fD 12)) (fD 13)))) (fD 16)) (fD 17))))))) (.node
  .dead (.node .dead (.node .dead (.node .dead (.node .dead (.node .dead (fD 17) (lD (.cells 114 7 7 (.node (.sl 967 0 0 384 (.u 967 0)) (.node (.sl 965 0 0 384 (.u 965 0)) (lA (nU
  412) 21) (lA (nU 0) 21)) (.node (.map 191) (lA (nU 0) 21) (lA (nU 0) 21))) true false) 16)) (fD 18)) (fD 19)) (.node .dead (.node .dead (.node .dead (fD 17) (.node .dead (fD 16)
  (.node .dead (fD 15) (lD (.cells 31 10 10 (.node (.ptr 192 0) (.node (nI 1) (.node (nI 414) (lA (.ptr 9015 0) 20) (fA 21)) (.node (.bool true) (lA (.fn (.func 77) [] [(.ptr 9804
  0), (.ptr 9026 0)]) 20) (fA 21))) (.node (nI 4) (.node .nilsl (lA (.ptr 9017 0) 20) (fA 21)) (lA .nilsl 21))) true false) 14)))) (.node .dead (fD 17) (.node .dead (fD 16) (.node
  .dead (.node .dead (fD 14) (.node .dead (.node .dead (.node .dead (lD (.cells 298 2 6 (.node (nI 0) (.node (nU 0) (lA (nU 1) 21) (lA (nU 0) 21)) (.node (nI 3) (lA (nI 0) 21) (fA
  22))) true false) 10) (fD 11)) (fD 12)) (fD 13))) (fD 15))))) (.node .dead (fD 18) (.node .dead (.node .dead (.node .dead (fD 15) (.node .dead (fD 14) (.node .dead (.node .dead
  (.node .dead (lD (.cells 204 2 2 (.node .nilif (lA (nI 0) 22) (fA 23)) true false) 10) (fD 11)) (fD 12)) (fD 13)))) (fD 16)) (fD 17))))) (.node .dead (.node .dead (.node .dead (fD
  18) (lD o7 17)) (.node .dead (lD (.cells 43 1 8 (.node (nU 0) (.node (nU 0) (.node (nU 0) (lA (nU 0) 20) (fA 21)) (lA (nU 0) 21)) (.node (nU 0) (lA (nU 0) 21) (lA (nU 0) 21)))
  false false) 17) (fD 18))) (.node .dead (.node .dead (.node .dead (fD 17) (.node .dead (.node .dead (.node .dead (fD 14) (.node .dead (fD 13) (.node .dead (.node .dead (lD (.cells
  174 1 1 (lA (.ptr 9803 0) 23) true false) 10) (fD 11)) (fD 12)))) (fD 15)) (fD 16))) (.node .dead (fD 17) (.node .dead (fD 16) (.node .dead (.node .dead (fD 14) (.node .dead (.node
  .dead (.node .dead (lD (.cells 348 1 1 (lA .nilsl 23) true false) 10) (fD 11)) (fD 12)) (fD 13))) (fD 15))))) (.node (.map [] 0) (fD 18) (.node .dead (.node .dead (.node .dead (fD
  15) (.node .dead (fD 14) (.node .dead (.node .dead (.node .dead (lD (.cells 106 12 12 (.node (nI 2) (.node (nI 0) (.node (nI 0) (lA (.str (bs [])) 20) (lA (nI 0) 20)) (.node (nU 0)
  (lA (nI 0) 20) (fA 21))) (.node (nI 0) (.node (nU 0) (lA (nU 0) 20) (fA 21)) (.node (nI 0) (lA .nilsl 20) (fA 21)))) true false) 10) (fD 11)) (fD 12)) (fD 13)))) (fD 16)) (fD
  17)))))) (.node o1 (.node .dead (.node .dead (.node .dead (.node .dead (fD 17) (.node .dead (.node .dead (fD 15) (.node .dead (fD 14) (.node .dead (.node .dead (.node .dead (lD
  (.cells 22 1 1 (lA (.ptr 968 0) 23) true false) 10) (fD 11)) (fD 12)) (fD 13)))) (fD 16))) (fD 18)) (.node .dead (lD (.cells 43 1 8 (.node (nU 0) (.node (nU 0) (.node (nU 0) (lA
  (nU 0) 20) (fA 21)) (lA (nU 0) 21)) (.node (nU 0) (lA (nU 0) 21) (lA (nU 0) 21))) false false) 17) (fD 18))) (.node .dead (.node .dead (.node .dead (fD 17) (.node .dead (.node
  .dead (.node .dead (fD 14) (.node .dead (fD 13) (.node .dead (.node .dead (lD o19 10) (fD 11)) (fD 12)))) (fD 15)) (fD 16))) (.node .dead (fD 17) (.node .dead (fD 16) (.node .dead
  (.node .dead (fD 14) (.node .dead (.node .dead (.node .dead (lD (.cells 294 7 7 (.node (nI 3072) (.node (.sl 8936 0 0 3 (.k 3)) (lA (.ptr 8941 0) 21) (lA (.ptr 8943 0) 21)) (.node
  (.ptr 8940 0) (lA (.ptr 8942 0) 21) (lA (.map 8937) 21))) true false) 10) (fD 11)) (fD 12)) (fD 13))) (fD 15))))) (fD 19))) (.node .dead (.node .dead (.node .dead (.node .dead (fD
  17) (.node .dead (.node .dead (fD 15) (.node .dead (fD 14) (.node .dead (.node .dead (.node .dead (lD (.cells 235 12 12 (.node (.ptr 192 0) (.node (.sl 9802 28 0 356 (.u 9802 28))
  (.node (.fn (.func 118) [(.ptr 9030 0)] []) (lA .nilsl 20) (lA (nI 0) 20)) (.node (nI 0) (lA .nilsl 20) (fA 21))) (.node (.sl 10029 0 0 28 (.u 10029 0)) (.node (.bool false) (lA
  .nilsl 20) (fA 21)) (.node .nilsl (lA (nI 0) 20) (fA 21)))) true false) 10) (fD 11)) (fD 12)) (fD 13)))) (fD 16))) (fD 18)) (.node .dead (fD 18) (.node .dead (.node .dead (.node
  .dead (fD 15) (.node .dead (fD 14) (.node .dead (.node .dead (.node .dead (lD o45 10) (fD 11)) (fD 12)) (fD 13)))) (fD 16)) (fD 17)))) (.node .dead (.node .dead (.node .dead (fD
  17) (.node .dead (.node .dead (.node .dead (fD 14) (.node .dead (fD 13) (.node .dead (.node .dead (lD o1 10) (fD 11)) (fD 12)))) (fD 15)) (fD 16))) (.node .dead (.node .dead (.node
  .dead (fD 15) (.node .dead (fD 14) (.node .dead (fD 13) (.node .dead (.node .dead (lD (.cells 39 13 13 (.node (nI 413) (.node (nI 7) (.node (nI 0) (lA (nI 0) 20) (lA (nI 0) 20))
  (.node (nI 0) (lA .nilsl 20) (fA 21))) (.node (nI 4) (.node (nI 0) (lA (.str (bs [])) 20) (lA (nI 0) 20)) (.node (.bool false) (lA (.bool false) 20) (fA 21)))) true false) 10) (fD
  11)) (fD 12))))) (fD 16)) (.node .dead (fD 16) (.node .dead (.node .dead (fD 14) (.node .dead (.node .dead (.node .dead (lD (.cells 348 1 1 (lA .nilsl 23) true false) 10) (fD 11))
  (fD 12)) (fD 13))) (fD 15))))) (fD 19)))))), 10031⟩,
  [.code (codeAt Tryz.f58 [1, 0, 1, 0, 0, 0, 1]), .code (codeAt Tryz.f58 [1, 0, 1, 0, 0, 1]), .lp (codeAt Tryz.f58 [1, 0, 1, 0,
  0]), .blk 0, .code (codeAt Tryz.f58 [1, 1])]⟩
/-- where the run stands at the end of part 24 -/
noncomputable def s24 : St :=
  ⟨⟨58, 27, [], .normal, none,
  [o48,
    o46,
    o6]⟩,
  .run,
  (.node (.ptr 968 0) (.node (nI 3136) (.node undefV (.node (.ptr 10590 0) (lU (.ptr 968 0) 19) (lU (.ptr 10590 10)
  19)) (.node (.bool true) (lU (nI 0) 19) (fU 20))) (.node (.bool false) (.node (nI 98) (lU (.tup [(.agg [(nI 483), (nI 7), (nI 4), (nI 0), (nI 0), (nI 0), (.bool false), (nI 0),
  (.str (bs [])), .nilsl, (.bool false), (nI 0), (nI 0)]), (nI 0)]) 19) (fU 20)) (.node (nI 98) (lU (.bool false) 19) (fU 20)))) (.node undefV (.node (.ptr 9806 0) (.node (nI 0) (lU
  (.agg [(nI 7), (nI 0), (nI 0), (nU 0), (nU 0), (nI 0), (.str (bs [])), (nU 0), (nI 0), .nilsl]) 19) (lU (.bool false) 19)) (.node (nI 97) (lU (nI 0) 19) (fU 20))) (.node (nI 98)
  (.node (nI 3136) (lU (.agg [(nI 483), (nI 7), (nI 4), (nI 0), (nI 0), (nI 0), (.bool false), (nI 0), (.str (bs [])), .nilsl, (.bool false), (nI 0), (nI 0)]) 19) (fU 20)) (lU (.tup
  [(.agg [(nI 483), (nI 7), (nI 4), (nI 0), (nI 0), (nI 0), (.bool false), (nI 0), (.str (bs [])), .nilsl, (.bool false), (nI 0), (nI 0)]), (nI 0)]) 20)))),
  ⟨(.node (.cells 31 10
  10 (.node .nil (.node (nI 0) (.node (nI 0) (lA .nil 20) (fA 21)) (.node (.bool false) (lA .nilfn 20) (fA 21))) (.node (nI 0) (.node .nilsl (lA .nil 20) (fA 21)) (lA .nilsl 21)))
  true false) (.node .dead (.node o1 (.node (.cells 5 1 64 (fB 24) true false) (.node .dead (.node .dead (.node .dead (fD 17) (lD (.map [] 0) 16)) (fD 18)) (.node .dead (fD 18)
  (.node .dead (fD 17) (.node .dead (fD 16) (.node .dead (.node .dead (fD 14) (.node .dead (.node .dead (.node .dead (lD (.cells 348 1 1 (lA (.sl 8989 0 0 4 (.u 8989 0)) 23) true
  false) 10) (fD 11)) (fD 12)) (fD 13))) (fD 15)))))) (.node .dead (.node .dead (.node .dead (fD 17) (.node .dead (fD 16) (.node .dead (fD 15) (lD o15 14)))) (fD 18)) (.node .dead
  (fD 18) (.node .dead (.node .dead (.node .dead (fD 15) (.node .dead (fD 14) (.node .dead (.node .dead (.node .dead (lD (.cells 211 3 3 (.node (.ptr 192 0) (lA (.ptr 8938 0) 22) (lA
  (.ptr 9014 0) 22)) true false) 10) (fD 11)) (fD 12)) (fD 13)))) (fD 16)) (fD 17))))) (.node .dead (.node .dead (.node .dead (fD 18) (lD (.cells 99 3 3 (.node .nilsl (lA .nilsl 22)
  (lA (.bool false) 22)) false false) 17)) (fD 19)) (.node .dead (.node .dead (.node .dead (fD 17) (.node .dead (.node .dead (.node .dead (fD 14) (.node .dead (fD 13) (.node .dead
  (.node .dead (lD (.cells 242 9 9 (.node (.ptr 9015 0) (.node (.ptr 9030 0) (.node (.fn (.func 126) [(.ptr 9803 0)] []) (lA (.bool false) 20) (fA 21)) (lA .nilsl 21)) (.node .nil
  (.node .nilsl (lA (nI 0) 20) (fA 21)) (lA .nilsl 21))) true false) 10) (fD 11)) (fD 12)))) (fD 15)) (fD 16))) (fD 18)) (.node (.cells 5 1 64 (fB 24) true false) (fD 18) (.node
  .dead (.node .dead (.node .dead (fD 15) (.node .dead (fD 14) (.node .dead (.node .dead (.node .dead (lD o44 10) (fD 11)) (fD 12)) (fD 13)))) (fD 16)) (fD 17)))))) (.node .dead
  (.node .dead (.node .dead (lD (.cells 5 1 64 (fB 24) true false) 18) (.node .dead (.node .dead (fD 17) (.node .dead (.node .dead (fD 15) (.node .dead (fD 14) (lD (.cells 106 12 12
  (.node (nI 1) (.node (nI 0) (.node (nI 0) (lA (.str (bs [])) 20) (lA (nI 0) 20)) (.node (nU 0) (lA (nI 0) 20) (fA 21))) (.node (nI 0) (.node (nU 0) (lA (nU 0) 20) (fA 21)) (.node
  (nI 0) (lA .nilsl 20) (fA 21)))) true false) 13))) (fD 16))) (fD 18))) (.node .dead (.node .dead (fD 18) (.node .dead (fD 17) (.node .dead (fD 16) (.node .dead (.node .dead (fD 14)
  (.node .dead (.node .dead (.node .dead (lD (.map [⟨(nU 1088), (nI 2), 0⟩] 1) 10) (fD 11)) (fD 12)) (fD 13))) (fD 15))))) (.node .dead (fD 18) (.node .dead (.node .dead (.node .dead
  (fD 15) (.node .dead (fD 14) (.node .dead (.node .dead (.node .dead (lD (.cells 198 4 4 (.node (.ptr 9015 0) (.node (.sl 9016 0 0 1 (.k 1)) (lA (nI 0) 21) (fA 22)) (lA .nilsl 22))
  true false) 10) (fD 11)) (fD 12)) (fD 13)))) (fD 16)) (fD 17))))) (.node .dead (.node .dead (.node .dead (.node .dead (fD 17) (.node .dead (fD 16) (.node .dead (fD 15) (lD o15
  14)))) (fD 18)) (.node .dead (lD (.cells 31 10 10 (.node (.ptr 61 0) (.node (nI 1) (.node (nI 0) (lA .nil 20) (fA 21)) (.node (.bool false) (lA .nilfn 20) (fA 21))) (.node (nI 1)
  (.node .nilsl (lA .nil 20) (fA 21)) (lA .nilsl 21))) true false) 17) (.node .dead (.node .dead (.node .dead (fD 15) (.node .dead (fD 14) (.node .dead (.node .dead (.node .dead (lD
  (.map [] 0) 10) (fD 11)) (fD 12)) (fD 13)))) (fD 16)) (fD 17)))) (.node .dead (.node .dead (.node .dead (fD 17) (.node .dead (.node .dead (.node .dead (fD 14) (.node .dead (fD 13)
  (.node .dead (.node .dead (lD o47 10) (fD 11)) (fD 12)))) (fD 15)) (fD 16))) (.node .dead (fD 17) (.node .dead (fD 16) (.node .dead (.node .dead (fD 14) (.node .dead (.node .dead
  (.node .dead (lD (.cells 348 1 1 (lA .nilsl 23) true false) 10) (fD 11)) (fD 12)) (fD 13))) (fD 15))))) (.node (.cells 114 7 7 (.node (.sl 84 0 0 8 (.u 84 0)) (.node (.sl 82 0 0 8
  (.u 82 0)) (lA (nU 0) 21) (lA (nU 0) 21)) (.node (.map 60) (lA (nU 0) 21) (lA (nU 0) 21))) true false) (.node o1 (.node .dead (.node .dead (fD 15) (.node .dead (fD 14) (.node .dead
  (.node .dead (.node .dead (lD (.cells 46 1 5 (.node (nU 1280) (.node (nU 1664) (lA (nU 1856) 21) (fA 22)) (.node (nU 1472) (lA (nU 1088) 21) (fA 22))) false false) 10) (fD 11)) (fD
  12)) (fD 13)))) (fD 16)) (.node .dead (.node .dead (fD 15) (.node .dead (.node .dead (.node .dead (fD 12) (.node .dead (lD (.cells 43 1 98 (.node (nU 5929342154728227142) (.node
  (nU 3072) (.node (nU 18446744073709548543) (.node (nU 0) (.node (nU 0) (.node (nU 0) (lA (nU 0) 17) (lA (nU 0) 17)) (.node (nU 0) (lA (nU 0) 17) (fA 18))) (.node (nU 0) (.node (nU
  0) (lA (nU 0) 17) (fA 18)) (.node (nU 0) (lA (nU 0) 17) (fA 18)))) (.node (nU 0) (.node (nU 0) (.node (nU 0) (lA (nU 0) 17) (fA 18)) (.node (nU 0) (lA (nU 0) 17) (fA 18))) (.node
  (nU 0) (.node (nU 0) (lA (nU 0) 17) (fA 18)) (.node (nU 0) (lA (nU 0) 17) (fA 18))))) (.node (nU 0) (.node (nU 0) (.node (nU 0) (.node (nU 0) (lA (nU 0) 17) (lA (nU 0) 17)) (.node
  (nU 0) (lA (nU 0) 17) (fA 18))) (.node (nU 0) (.node (nU 0) (lA (nU 0) 17) (fA 18)) (.node (nU 0) (lA (nU 0) 17) (fA 18)))) (.node (nU 0) (.node (nU 0) (.node (nU 0) (lA (nU 0) 17)
  (fA 18)) (.node (nU 0) (lA (nU 0) 17) (fA 18))) (.node (nU 0) (.node (nU 0) (lA (nU 0) 17) (fA 18)) (.node (nU 0) (lA (nU 0) 17) (fA 18)))))) (.node (nU 1088) (.node (nU 0) (.node
  (nU 0) (.node (nU 0) (.node (nU 0) (lA (nU 0) 17) (lA (nU 0) 17)) (.node (nU 0) (lA (nU 0) 17) (fA 18))) (.node (nU 0) (.node (nU 0) (lA (nU 0) 17) (fA 18)) (.node (nU 0) (lA (nU
  0) 17) (fA 18)))) (.node (nU 0) (.node (nU 0) (.node (nU 0) (lA (nU 0) 17) (fA 18)) (.node (nU 0) (lA (nU 0) 17) (fA 18))) (.node (nU 0) (.node (nU 0) (lA (nU 0) 17) (fA 18))
  (.node (nU 0) (lA (nU 0) 17) (fA 18))))) (.node (nU 0) (.node (nU 0) (.node (nU 0) (.node (nU 0) (lA (nU 0) 17) (fA 18)) (.node (nU 0) (lA (nU 0) 17) (fA 18))) (.node (nU 0) (.node
  (nU 0) (lA (nU 0) 17) (fA 18)) (.node (nU 0) (lA (nU 0) 17) (fA 18)))) (.node (nU 0) (.node (nU 0) (.node (nU 0) (lA (nU 0) 17) (fA 18)) (.node (nU 0) (lA (nU 0) 17) (fA 18)))
  (.node (nU 0) (.node (nU 0) (lA (nU 0) 17) (fA 18)) (.node (nU 0) (lA (nU 0) 17) (fA 18))))))) false false) 10) (fD 11))) (fD 13)) (fD 14))) (fD 16))) (.node .dead (.node .dead
  (.node .dead (fD 15) (.node .dead (fD 14) (.node .dead (.node .dead (.node .dead (lD (.cells 49 10 10 (.node (nI 6) (.node (nI 0) (.node (nU 0) (lA (nU 0) 20) (fA 21)) (.node (nI
  0) (lA .nilsl 20) (fA 21))) (.node (nI 0) (.node (nU 0) (lA (nI 0) 20) (fA 21)) (lA (.str (bs [])) 21))) true false) 10) (fD 11)) (fD 12)) (fD 13)))) (fD 16)) (fD 17))))))) (.node
  .dead (.node .dead (.node .dead (.node .dead (.node .dead (.node .dead (fD 17) (lD (.cells 114 7 7 (.node (.sl 967 0 0 384 (.u 967 0)) (.node (.sl 965 0 0 384 (.u 965 0)) (lA (nU
  482) 21) (lA (nU 0) 21)) (.node (.map 191) (lA (nU 0) 21) (lA (nU 0) 21))) true false) 16)) (fD 18)) (fD 19)) (.node .dead (.node .dead (.node .dead (fD 17) (.node .dead (fD 16)
  (.node .dead (fD 15) (lD (.cells 31 10 10 (.node (.ptr 192 0) (.node (nI 1) (.node (nI 484) (lA (.ptr 9015 0) 20) (fA 21)) (.node (.bool true) (lA (.fn (.func 77) [] [(.ptr 9804
  0), (.ptr 9026 0)]) 20) (fA 21))) (.node (nI 4) (.node .nilsl (lA (.ptr 9017 0) 20) (fA 21)) (lA .nilsl 21))) true false) 14)))) (.node .dead (fD 17) (.node .dead (fD 16) (.node
  .dead (.node .dead (fD 14) (.node .dead (.node .dead (.node .dead (lD (.cells 298 2 6 (.node (nI 0) (.node (nU 0) (lA (nU 1) 21) (lA (nU 0) 21)) (.node (nI 3) (lA (nI 0) 21) (fA
  22))) true false) 10) (fD 11)) (fD 12)) (fD 13))) (fD 15))))) (.node .dead (fD 18) (.node .dead (.node .dead (.node .dead (fD 15) (.node .dead (fD 14) (.node .dead (.node .dead
  (.node .dead (lD (.cells 204 2 2 (.node .nilif (lA (nI 0) 22) (fA 23)) true false) 10) (fD 11)) (fD 12)) (fD 13)))) (fD 16)) (fD 17))))) (.node .dead (.node .dead (.node .dead (fD
  18) (lD o7 17)) (.node .dead (lD (.cells 43 1 8 (.node (nU 0) (.node (nU 0) (.node (nU 0) (lA (nU 0) 20) (fA 21)) (lA (nU 0) 21)) (.node (nU 0) (lA (nU 0) 21) (lA (nU 0) 21)))
  false false) 17) (fD 18))) (.node .dead (.node .dead (.node .dead (fD 17) (.node .dead (.node .dead (.node .dead (fD 14) (.node .dead (fD 13) (.node .dead (.node .dead (lD (.cells
  174 1 1 (lA (.ptr 9803 0) 23) true false) 10) (fD 11)) (fD 12)))) (fD 15)) (fD 16))) (.node .dead (fD 17) (.node .dead (fD 16) (.node .dead (.node .dead (fD 14) (.node .dead (.node
  .dead (.node .dead (lD (.cells 348 1 1 (lA .nilsl 23) true false) 10) (fD 11)) (fD 12)) (fD 13))) (fD 15))))) (.node (.map [] 0) (fD 18) (.node .dead (.node .dead (.node .dead (fD
  15) (.node .dead (fD 14) (.node .dead (.node .dead (.node .dead (lD (.cells 106 12 12 (.node (nI 2) (.node (nI 0) (.node (nI 0) (lA (.str (bs [])) 20) (lA (nI 0) 20)) (.node (nU 0)
  (lA (nI 0) 20) (fA 21))) (.node (nI 0) (.node (nU 0) (lA (nU 0) 20) (fA 21)) (.node (nI 0) (lA .nilsl 20) (fA 21)))) true false) 10) (fD 11)) (fD 12)) (fD 13)))) (fD 16)) (fD
  17)))))) (.node o1 (.node .dead (.node .dead (.node .dead (.node .dead (fD 17) (.node .dead (.node .dead (fD 15) (.node .dead (fD 14) (.node .dead (.node .dead (.node .dead (lD
  (.cells 22 1 1 (lA (.ptr 968 0) 23) true false) 10) (fD 11)) (fD 12)) (fD 13)))) (fD 16))) (fD 18)) (.node .dead (lD (.cells 43 1 8 (.node (nU 0) (.node (nU 0) (.node (nU 0) (lA
  (nU 0) 20) (fA 21)) (lA (nU 0) 21)) (.node (nU 0) (lA (nU 0) 21) (lA (nU 0) 21))) false false) 17) (fD 18))) (.node .dead (.node .dead (.node .dead (fD 17) (.node .dead (.node
  .dead (.node .dead (fD 14) (.node .dead (fD 13) (.node .dead (.node .dead (lD o19 10) (fD 11)) (fD 12)))) (fD 15)) (fD 16))) (.node .dead (fD 17) (.node .dead (fD 16) (.node .dead
  (.node .dead (fD 14) (.node .dead (.node .dead (.node .dead (lD (.cells 294 7 7 (.node (nI 3072) (.node (.sl 8936 0 0 3 (.k 3)) (lA (.ptr 8941 0) 21) (lA (.ptr 8943 0) 21)) (.node
  (.ptr 8940 0) (lA (.ptr 8942 0) 21) (lA (.map 8937) 21))) true false) 10) (fD 11)) (fD 12)) (fD 13))) (fD 15))))) (fD 19))) (.node .dead (.node .dead (.node .dead (.node .dead (fD
  17) (.node .dead (.node .dead (fD 15) (.node .dead (fD 14) (.node .dead (.node .dead (.node .dead (lD (.cells 235 12 12 (.node (.ptr 192 0) (.node (.sl 9802 98 0 286 (.u 9802 98))
  (.node (.fn (.func 118) [(.ptr 9030 0)] []) (lA .nilsl 20) (lA (nI 0) 20)) (.node (nI 0) (lA .nilsl 20) (fA 21))) (.node (.sl 10589 0 0 98 (.u 10589 0)) (.node (.bool false) (lA
  .nilsl 20) (fA 21)) (.node .nilsl (lA (nI 0) 20) (fA 21)))) true false) 10) (fD 11)) (fD 12)) (fD 13)))) (fD 16))) (fD 18)) (.node .dead (fD 18) (.node .dead (.node .dead (.node
  .dead (fD 15) (.node .dead (fD 14) (.node .dead (.node .dead (.node .dead (lD o45 10) (fD 11)) (fD 12)) (fD 13)))) (fD 16)) (fD 17)))) (.node .dead (.node .dead (.node .dead (fD
  17) (.node .dead (.node .dead (.node .dead (fD 14) (.node .dead (fD 13) (.node .dead (.node .dead (lD o1 10) (fD 11)) (fD 12)))) (fD 15)) (fD 16))) (.node .dead (fD 17) (.node
  .dead (fD 16) (.node .dead (.node .dead (fD 14) (.node .dead (.node .dead (.node .dead (lD (.cells 348 1 1 (lA .nilsl 23) true false) 10) (fD 11)) (fD 12)) (fD 13))) (fD 15)))))
  (.node .dead (.node .dead (fD 17) (.node .dead (.node .dead (fD 15) (.node .dead (.node .dead (.node .dead (fD 12) (.node .dead (lD (.cells 39 13 13 (.node (nI 483) (.node (nI 7)
  (.node (nI 0) (lA (nI 0) 20) (lA (nI 0) 20)) (.node (nI 0) (lA .nilsl 20) (fA 21))) (.node (nI 4) (.node (nI 0) (lA (.str (bs [])) 20) (lA (nI 0) 20)) (.node (.bool false) (lA
  (.bool false) 20) (fA 21)))) true false) 10) (fD 11))) (fD 13)) (fD 14))) (fD 16))) (fD 18))))))), 10591⟩,
  [.code (codeAt Tryz.f58 [1, 0, 1, 0, 0, 0, 1]), .code (codeAt Tryz.f58
  [1, 0, 1, 0, 0, 1]), .lp (codeAt Tryz.f58 [1, 0, 1, 0, 0]), .blk 0, .code (codeAt Tryz.f58 [1, 1])]⟩
/-- where the run stands at the end of part 25 -/
noncomputable def s25 : St :=
  ⟨⟨58, 27, [], .normal, none,
  [o48,
    o46,
    o6]⟩,
  .run,
  (.node (.ptr 968 0) (.node (nI 3136) (.node undefV (.node (.ptr 11150 0) (lU (.ptr 968 0) 19) (lU (.ptr 11150 10)
  19)) (.node (.bool true) (lU (nI 0) 19) (fU 20))) (.node (.bool false) (.node (nI 168) (lU (.tup [(.agg [(nI 553), (nI 7), (nI 4), (nI 0), (nI 0), (nI 0), (.bool false), (nI 0),
  (.str (bs [])), .nilsl, (.bool false), (nI 0), (nI 0)]), (nI 0)]) 19) (fU 20)) (.node (nI 168) (lU (.bool false) 19) (fU 20)))) (.node undefV (.node (.ptr 9806 0) (.node (nI 0) (lU
  (.agg [(nI 7), (nI 0), (nI 0), (nU 0), (nU 0), (nI 0), (.str (bs [])), (nU 0), (nI 0), .nilsl]) 19) (lU (.bool false) 19)) (.node (nI 167) (lU (nI 0) 19) (fU 20))) (.node (nI 168)
  (.node (nI 3136) (lU (.agg [(nI 553), (nI 7), (nI 4), (nI 0), (nI 0), (nI 0), (.bool false), (nI 0), (.str (bs [])), .nilsl, (.bool false), (nI 0), (nI 0)]) 19) (fU 20)) (lU (.tup
  [(.agg [(nI 553), (nI 7), (nI 4), (nI 0), (nI 0), (nI 0), (.bool false), (nI 0), (.str (bs [])), .nilsl, (.bool false), (nI 0), (nI 0)]), (nI 0)]) 20)))),
  ⟨(.node (.cells 31 10
  10 (.node .nil (.node (nI 0) (.node (nI 0) (lA .nil 20) (fA 21)) (.node (.bool false) (lA .nilfn 20) (fA 21))) (.node (nI 0) (.node .nilsl (lA .nil 20) (fA 21)) (lA .nilsl 21)))
  true false) (.node .dead (.node o1 (.node (.cells 5 1 64 (fB 24) true false) (.node .dead (.node .dead (.node .dead (fD 17) (lD (.map [] 0) 16)) (fD 18)) (.node .dead (fD 18)
  (.node .dead (fD 17) (.node .dead (fD 16) (.node .dead (.node .dead (fD 14) (.node .dead (.node .dead (.node .dead (lD (.cells 348 1 1 (lA (.sl 8989 0 0 4 (.u 8989 0)) 23) true
  false) 10) (fD 11)) (fD 12)) (fD 13))) (fD 15)))))) (.node .dead (.node .dead (.node .dead (fD 17) (.node .dead (fD 16) (.node .dead (fD 15) (lD o15 14)))) (fD 18)) (.node .dead
  (fD 18) (.node .dead (.node .dead (.node .dead (fD 15) (.node .dead (fD 14) (.node .dead (.node .dead (.node .dead (lD (.cells 211 3 3 (.node (.ptr 192 0) (lA (.ptr 8938 0) 22) (lA
  (.ptr 9014 0) 22)) true false) 10) (fD 11)) (fD 12)) (fD 13)))) (fD 16)) (fD 17))))) (.node .dead (.node .dead (.node .dead (fD 18) (lD (.cells 99 3 3 (.node .nilsl (lA .nilsl 22)
  (lA (.bool false) 22)) false false) 17)) (fD 19)) (.node .dead (.node .dead (.node .dead (fD 17) (.node .dead (.node .dead (.node .dead (fD 14) (.node .dead (fD 13) (.node .dead
  (.node .dead (lD (.cells 242 9 9 (.node (.ptr 9015 0) (.node (.ptr 9030 0) (.node (.fn (.func 126) [(.ptr 9803 0)] []) (lA (.bool false) 20) (fA 21)) (lA .nilsl 21)) (.node .nil
  (.node .nilsl (lA (nI 0) 20) (fA 21)) (lA .nilsl 21))) true false) 10) (fD 11)) (fD 12)))) (fD 15)) (fD 16))) (fD 18)) (.node (.cells 5 1 64 (fB 24) true false) (fD 18) (.node
  .dead (.node .dead (.node .dead (fD 15) (.node .dead (fD 14) (.node .dead (.node .dead (.node .dead (lD o44 10) (fD 11)) (fD 12)) (fD 13)))) (fD 16)) (fD 17)))))) (.node .dead
  (.node .dead (.node .dead (lD (.cells 5 1 64 (fB 24) true false) 18) (.node .dead (.node .dead (fD 17) (.node .dead (.node .dead (fD 15) (.node .dead (fD 14) (lD (.cells 106 12 12
  (.node (nI 1) (.node (nI 0) (.node (nI 0) (lA (.str (bs [])) 20) (lA (nI 0) 20)) (.node (nU 0) (lA (nI 0) 20) (fA 21))) (.node (nI 0) (.node (nU 0) (lA (nU 0) 20) (fA 21)) (.node
  (nI 0) (lA .nilsl 20) (fA 21)))) true false) 13))) (fD 16))) (fD 18))) (.node .dead (.node .dead (fD 18) (.node .dead (fD 17) (.node .dead (fD 16) (.node .dead (.node .dead (fD 14)
  (.node .dead (.node .dead (.node .dead (lD (.map [⟨(nU 1088), (nI 2), 0⟩] 1) 10) (fD 11)) (fD 12)) (fD 13))) (fD 15))))) (.node .dead (fD 18) (.node .dead (.node .dead (.node .dead
  (fD 15) (.node .dead (fD 14) (.node .dead (.node .dead (.node .dead (lD (.cells 198 4 4 (.node (.ptr 9015 0) (.node (.sl 9016 0 0 1 (.k 1)) (lA (nI 0) 21) (fA 22)) (lA .nilsl 22))
  true false) 10) (fD 11)) (fD 12)) (fD 13)))) (fD 16)) (fD 17))))) (.node .dead (.node .dead (.node .dead (.node .dead (fD 17) (.node .dead (fD 16) (.node .dead (fD 15) (lD o15
  14)))) (fD 18)) (.node .dead (lD (.cells 31 10 10 (.node (.ptr 61 0) (.node (nI 1) (.node (nI 0) (lA .nil 20) (fA 21)) (.node (.bool false) (lA .nilfn 20) (fA 21))) (.node (nI 1)
  (.node .nilsl (lA .nil 20) (fA 21)) (lA .nilsl 21))) true false) 17) (.node .dead (.node .dead (.node .dead (fD 15) (.node .dead (fD 14) (.node .dead (.node .dead (.node .dead (lD
  (.map [] 0) 10) (fD 11)) (fD 12)) (fD 13)))) (fD 16)) (fD 17)))) (.node .dead (.node .dead (.node .dead (.node .dead (fD 16) (.node .dead (fD 15) (.node .dead (fD 14) (.node .dead
  (.node .dead (fD 12) (.node .dead (lD (.cells 43 1 168 (.node (nU 5929342154728227142) (.node (nU 3072) (.node (nU 18446744073709548543) (.node (nU 0) (.node (nU 0) (.node (nU 0)
  (.node (nU 0) (lA (nU 0) 16) (fA 17)) (.node (nU 0) (lA (nU 0) 16) (fA 17))) (.node (nU 0) (.node (nU 0) (lA (nU 0) 16) (fA 17)) (lA (nU 0) 17))) (.node (nU 0) (.node (nU 0) (.node
  (nU 0) (lA (nU 0) 16) (fA 17)) (.node (nU 0) (lA (nU 0) 16) (fA 17))) (.node (nU 0) (.node (nU 0) (lA (nU 0) 16) (fA 17)) (lA (nU 0) 17)))) (.node (nU 0) (.node (nU 0) (.node (nU
  0) (.node (nU 0) (lA (nU 0) 16) (fA 17)) (.node (nU 0) (lA (nU 0) 16) (fA 17))) (.node (nU 0) (.node (nU 0) (lA (nU 0) 16) (fA 17)) (lA (nU 0) 17))) (.node (nU 0) (.node (nU 0)
  (.node (nU 0) (lA (nU 0) 16) (fA 17)) (lA (nU 0) 17)) (.node (nU 0) (.node (nU 0) (lA (nU 0) 16) (fA 17)) (lA (nU 0) 17))))) (.node (nU 0) (.node (nU 0) (.node (nU 0) (.node (nU 0)
  (.node (nU 0) (lA (nU 1) 16) (fA 17)) (.node (nU 0) (lA (nU 0) 16) (fA 17))) (.node (nU 0) (.node (nU 0) (lA (nU 0) 16) (fA 17)) (lA (nU 0) 17))) (.node (nU 0) (.node (nU 0) (.node
  (nU 0) (lA (nU 0) 16) (fA 17)) (lA (nU 0) 17)) (.node (nU 0) (.node (nU 0) (lA (nU 0) 16) (fA 17)) (lA (nU 0) 17)))) (.node (nU 0) (.node (nU 0) (.node (nU 0) (.node (nU 0) (lA (nU
  0) 16) (fA 17)) (.node (nU 0) (lA (nU 0) 16) (fA 17))) (.node (nU 0) (.node (nU 0) (lA (nU 0) 16) (fA 17)) (lA (nU 0) 17))) (.node (nU 0) (.node (nU 0) (.node (nU 0) (lA (nU 0) 16)
  (fA 17)) (lA (nU 0) 17)) (.node (nU 0) (.node (nU 0) (lA (nU 0) 16) (fA 17)) (lA (nU 0) 17)))))) (.node (nU 1088) (.node (nU 0) (.node (nU 0) (.node (nU 0) (.node (nU 0) (.node (nU
  0) (lA (nU 3) 16) (fA 17)) (.node (nU 0) (lA (nU 0) 16) (fA 17))) (.node (nU 0) (.node (nU 0) (lA (nU 0) 16) (fA 17)) (lA (nU 0) 17))) (.node (nU 0) (.node (nU 0) (.node (nU 0) (lA
  (nU 5495893775785918464) 16) (fA 17)) (lA (nU 0) 17)) (.node (nU 0) (.node (nU 0) (lA (nU 0) 16) (fA 17)) (lA (nU 0) 17)))) (.node (nU 0) (.node (nU 0) (.node (nU 0) (.node (nU 0)
  (lA (nU 0) 16) (fA 17)) (.node (nU 0) (lA (nU 0) 16) (fA 17))) (.node (nU 0) (.node (nU 0) (lA (nU 0) 16) (fA 17)) (lA (nU 0) 17))) (.node (nU 0) (.node (nU 0) (.node (nU 0) (lA
  (nU 1088) 16) (fA 17)) (lA (nU 0) 17)) (.node (nU 0) (.node (nU 0) (lA (nU 0) 16) (fA 17)) (lA (nU 0) 17))))) (.node (nU 0) (.node (nU 0) (.node (nU 0) (.node (nU 0) (.node (nU 0)
  (lA (nU 0) 16) (fA 17)) (.node (nU 0) (lA (nU 0) 16) (fA 17))) (.node (nU 0) (.node (nU 0) (lA (nU 0) 16) (fA 17)) (lA (nU 0) 17))) (.node (nU 0) (.node (nU 0) (.node (nU 0) (lA
  (nU 0) 16) (fA 17)) (lA (nU 0) 17)) (.node (nU 0) (.node (nU 0) (lA (nU 0) 16) (fA 17)) (lA (nU 0) 17)))) (.node (nU 0) (.node (nU 0) (.node (nU 0) (.node (nU 0) (lA (nU 0) 16) (fA
  17)) (.node (nU 0) (lA (nU 0) 16) (fA 17))) (.node (nU 0) (.node (nU 0) (lA (nU 0) 16) (fA 17)) (lA (nU 0) 17))) (.node (nU 0) (.node (nU 0) (.node (nU 0) (lA (nU 0) 16) (fA 17))
  (lA (nU 0) 17)) (.node (nU 0) (.node (nU 0) (lA (nU 0) 16) (fA 17)) (lA (nU 0) 17))))))) false false) 10) (fD 11))) (fD 13))))) (.node .dead (.node .dead (.node .dead (fD 14)
  (.node .dead (fD 13) (.node .dead (.node .dead (lD o47 10) (fD 11)) (fD 12)))) (fD 15)) (fD 16))) (.node .dead (fD 17) (.node .dead (fD 16) (.node .dead (.node .dead (fD 14) (.node
  .dead (.node .dead (.node .dead (lD (.cells 348 1 1 (lA .nilsl 23) true false) 10) (fD 11)) (fD 12)) (fD 13))) (fD 15))))) (.node (.cells 114 7 7 (.node (.sl 84 0 0 8 (.u 84 0))
  (.node (.sl 82 0 0 8 (.u 82 0)) (lA (nU 0) 21) (lA (nU 0) 21)) (.node (.map 60) (lA (nU 0) 21) (lA (nU 0) 21))) true false) (.node o1 (.node .dead (.node .dead (fD 15) (.node .dead
  (fD 14) (.node .dead (.node .dead (.node .dead (lD (.cells 46 1 5 (.node (nU 1280) (.node (nU 1664) (lA (nU 1856) 21) (fA 22)) (.node (nU 1472) (lA (nU 1088) 21) (fA 22))) false
  false) 10) (fD 11)) (fD 12)) (fD 13)))) (fD 16)) (fD 17)) (.node .dead (.node .dead (.node .dead (fD 15) (.node .dead (fD 14) (.node .dead (.node .dead (.node .dead (lD (.cells 49
  10 10 (.node (nI 6) (.node (nI 0) (.node (nU 0) (lA (nU 0) 20) (fA 21)) (.node (nI 0) (lA .nilsl 20) (fA 21))) (.node (nI 0) (.node (nU 0) (lA (nI 0) 20) (fA 21)) (lA (.str (bs
  [])) 21))) true false) 10) (fD 11)) (fD 12)) (fD 13)))) (fD 16)) (fD 17))))))) (.node .dead (.node .dead (.node .dead (.node .dead (.node .dead (.node .dead (fD 17) (lD (.cells 114
  7 7 (.node (.sl 967 0 0 384 (.u 967 0)) (.node (.sl 965 0 0 384 (.u 965 0)) (lA (nU 552) 21) (lA (nU 0) 21)) (.node (.map 191) (lA (nU 0) 21) (lA (nU 0) 21))) true false) 16)) (fD
  18)) (fD 19)) (.node .dead (.node .dead (.node .dead (fD 17) (.node .dead (fD 16) (.node .dead (fD 15) (lD (.cells 31 10 10 (.node (.ptr 192 0) (.node (nI 1) (.node (nI 554) (lA
  (.ptr 9015 0) 20) (fA 21)) (.node (.bool true) (lA (.fn (.func 77) [] [(.ptr 9804 0), (.ptr 9026 0)]) 20) (fA 21))) (.node (nI 4) (.node .nilsl (lA (.ptr 9017 0) 20) (fA 21)) (lA
  .nilsl 21))) true false) 14)))) (.node .dead (fD 17) (.node .dead (fD 16) (.node .dead (.node .dead (fD 14) (.node .dead (.node .dead (.node .dead (lD (.cells 298 2 6 (.node (nI 0)
  (.node (nU 0) (lA (nU 1) 21) (lA (nU 0) 21)) (.node (nI 3) (lA (nI 0) 21) (fA 22))) true false) 10) (fD 11)) (fD 12)) (fD 13))) (fD 15))))) (.node .dead (fD 18) (.node .dead (.node
  .dead (.node .dead (fD 15) (.node .dead (fD 14) (.node .dead (.node .dead (.node .dead (lD (.cells 204 2 2 (.node .nilif (lA (nI 0) 22) (fA 23)) true false) 10) (fD 11)) (fD 12))
  (fD 13)))) (fD 16)) (fD 17))))) (.node .dead (.node .dead (.node .dead (fD 18) (lD o7 17)) (.node .dead (lD (.cells 43 1 8 (.node (nU 0) (.node (nU 0) (.node (nU 0) (lA (nU 0) 20)
  (fA 21)) (lA (nU 0) 21)) (.node (nU 0) (lA (nU 0) 21) (lA (nU 0) 21))) false false) 17) (fD 18))) (.node .dead (.node .dead (.node .dead (fD 17) (.node .dead (.node .dead (.node
  .dead (fD 14) (.node .dead (fD 13) (.node .dead (.node .dead (lD (.cells 174 1 1 (lA (.ptr 9803 0) 23) true false) 10) (fD 11)) (fD 12)))) (fD 15)) (fD 16))) (.node .dead (fD 17)
  (.node .dead (fD 16) (.node .dead (.node .dead (fD 14) (.node .dead (.node .dead (.node .dead (lD (.cells 348 1 1 (lA .nilsl 23) true false) 10) (fD 11)) (fD 12)) (fD 13))) (fD
  15))))) (.node (.map [] 0) (fD 18) (.node .dead (.node .dead (.node .dead (fD 15) (.node .dead (fD 14) (.node .dead (.node .dead (.node .dead (lD (.cells 106 12 12 (.node (nI 2)
  (.node (nI 0) (.node (nI 0) (lA (.str (bs [])) 20) (lA (nI 0) 20)) (.node (nU 0) (lA (nI 0) 20) (fA 21))) (.node (nI 0) (.node (nU 0) (lA (nU 0) 20) (fA 21)) (.node (nI 0) (lA
  .nilsl 20) (fA 21)))) true false) 10) (fD 11)) (fD 12)) (fD 13)))) (fD 16)) (fD 17)))))) (.node o1 (.node .dead (.node .dead (.node .dead (.node .dead (fD 17) (.node .dead (.node
  .dead (fD 15) (.node .dead (fD 14) (.node .dead (.node .dead (.node .dead (lD (.cells 22 1 1 (lA (.ptr 968 0) 23) true false) 10) (fD 11)) (fD 12)) (fD 13)))) (fD 16))) (fD 18))
  (.node .dead (lD (.cells 43 1 8 (.node (nU 0) (.node (nU 0) (.node (nU 0) (lA (nU 0) 20) (fA 21)) (lA (nU 0) 21)) (.node (nU 0) (lA (nU 0) 21) (lA (nU 0) 21))) false false) 17) (fD
  18))) (.node .dead (.node .dead (.node .dead (fD 17) (.node .dead (.node .dead (.node .dead (fD 14) (.node .dead (fD 13) (.node .dead (.node .dead (lD o19 10) (fD 11)) (fD 12))))
  (fD 15)) (fD 16))) (.node .dead (fD 17) (.node .dead (fD 16) (.node .dead (.node .dead (fD 14) (.node .dead (.node .dead (.node .dead (lD (.cells 294 7 7 (.node (nI 3072) (.node
  (.sl 8936 0 0 3 (.k 3)) (lA (.ptr 8941 0) 21) (lA (.ptr 8943 0) 21)) (.node (.ptr 8940 0) (lA (.ptr 8942 0) 21) (lA (.map 8937) 21))) true false) 10) (fD 11)) (fD 12)) (fD 13)))
  (fD 15))))) (fD 19))) (.node .dead (.node .dead (.node .dead (.node .dead (fD 17) (.node .dead (.node .dead (fD 15) (.node .dead (fD 14) (.node .dead (.node .dead (.node .dead (lD
  (.cells 235 12 12 (.node (.ptr 192 0) (.node (.sl 9802 168 0 216 (.u 9802 168)) (.node (.fn (.func 118) [(.ptr 9030 0)] []) (lA .nilsl 20) (lA (nI 0) 20)) (.node (nI 0) (lA .nilsl
  20) (fA 21))) (.node (.sl 11149 0 0 168 (.u 11149 0)) (.node (.bool false) (lA .nilsl 20) (fA 21)) (.node .nilsl (lA (nI 0) 20) (fA 21)))) true false) 10) (fD 11)) (fD 12)) (fD
  13)))) (fD 16))) (fD 18)) (.node .dead (fD 18) (.node .dead (.node .dead (.node .dead (fD 15) (.node .dead (fD 14) (.node .dead (.node .dead (.node .dead (lD o45 10) (fD 11)) (fD
  12)) (fD 13)))) (fD 16)) (fD 17)))) (.node .dead (.node .dead (.node .dead (.node .dead (fD 16) (.node .dead (fD 15) (.node .dead (fD 14) (.node .dead (.node .dead (fD 12) (.node
  .dead (lD (.cells 39 13 13 (.node (nI 553) (.node (nI 7) (.node (nI 0) (lA (nI 0) 20) (lA (nI 0) 20)) (.node (nI 0) (lA .nilsl 20) (fA 21))) (.node (nI 4) (.node (nI 0) (lA (.str
  (bs [])) 20) (lA (nI 0) 20)) (.node (.bool false) (lA (.bool false) 20) (fA 21)))) true false) 10) (fD 11))) (fD 13))))) (.node .dead (.node .dead (.node .dead (fD 14) (.node .dead
  (fD 13) (.node .dead (.node .dead (lD o1 10) (fD 11)) (fD 12)))) (fD 15)) (fD 16))) (.node .dead (fD 17) (.node .dead (fD 16) (.node .dead (.node .dead (fD 14) (.node .dead (.node
  .dead (.node .dead (lD (.cells 348 1 1 (lA .nilsl 23) true false) 10) (fD 11)) (fD 12)) (fD 13))) (fD 15))))) (fD 19)))))), 11151⟩,
  [.code (codeAt Tryz.f58 [1, 0, 1, 0, 0, 0,
  1]), .code (codeAt Tryz.f58 [1, 0, 1, 0, 0, 1]), .lp (codeAt Tryz.f58 [1, 0, 1, 0, 0]), .blk 0, .code (codeAt Tryz.f58 [1, 1])]⟩
/-- where the run stands at the end of part 26 -/
noncomputable def s26 : St :=
  ⟨⟨58, 27, [], .normal, none,
  [o48,
    o46,
    o6]⟩,
  .run,
  (.node (.ptr 968 0) (.node (nI 3136) (.node undefV (.node (.ptr 11710 0) (lU (.ptr 968 0) 19) (lU (.ptr 11710 10)
  19)) (.node (.bool true) (lU (nI 0) 19) (fU 20))) (.node (.bool false) (.node (nI 238) (lU (.tup [(.agg [(nI 623), (nI 7), (nI 4), (nI 0), (nI 0), (nI 0), (.bool false), (nI 0),
  (.str (bs [])), .nilsl, (.bool false), (nI 0), (nI 0)]), (nI 0)]) 19) (fU 20)) (.node (nI 238) (lU (.bool false) 19) (fU 20)))) (.node undefV (.node (.ptr 9806 0) (.node (nI 0) (lU
  (.agg [(nI 7), (nI 0), (nI 0), (nU 0), (nU 0), (nI 0), (.str (bs [])), (nU 0), (nI 0), .nilsl]) 19) (lU (.bool false) 19)) (.node (nI 237) (lU (nI 0) 19) (fU 20))) (.node (nI 238)
  (.node (nI 3136) (lU (.agg [(nI 623), (nI 7), (nI 4), (nI 0), (nI 0), (nI 0), (.bool false), (nI 0), (.str (bs [])), .nilsl, (.bool false), (nI 0), (nI 0)]) 19) (fU 20)) (lU (.tup
  [(.agg [(nI 623), (nI 7), (nI 4), (nI 0), (nI 0), (nI 0), (.bool false), (nI 0), (.str (bs [])), .nilsl, (.bool false), (nI 0), (nI 0)]), (nI 0)]) 20)))),
  ⟨(.node (.cells 31 10
  10 (.node .nil (.node (nI 0) (.node (nI 0) (lA .nil 20) (fA 21)) (.node (.bool false) (lA .nilfn 20) (fA 21))) (.node (nI 0) (.node .nilsl (lA .nil 20) (fA 21)) (lA .nilsl 21)))
  true false) (.node .dead (.node o1 (.node (.cells 5 1 64 (fB 24) true false) (.node .dead (.node .dead (.node .dead (fD 17) (lD (.map [] 0) 16)) (fD 18)) (.node .dead (fD 18)
  (.node .dead (fD 17) (.node .dead (fD 16) (.node .dead (.node .dead (fD 14) (.node .dead (.node .dead (.node .dead (lD (.cells 348 1 1 (lA (.sl 8989 0 0 4 (.u 8989 0)) 23) true
  false) 10) (fD 11)) (fD 12)) (fD 13))) (fD 15)))))) (.node .dead (.node .dead (.node .dead (fD 17) (.node .dead (fD 16) (.node .dead (fD 15) (lD o15 14)))) (fD 18)) (.node .dead
  (fD 18) (.node .dead (.node .dead (.node .dead (fD 15) (.node .dead (fD 14) (.node .dead (.node .dead (.node .dead (lD (.cells 211 3 3 (.node (.ptr 192 0) (lA (.ptr 8938 0) 22) (lA
  (.ptr 9014 0) 22)) true false) 10) (fD 11)) (fD 12)) (fD 13)))) (fD 16)) (fD 17))))) (.node .dead (.node .dead (.node .dead (fD 18) (lD (.cells 99 3 3 (.node .nilsl (lA .nilsl 22)
  (lA (.bool false) 22)) false false) 17)) (fD 19)) (.node .dead (.node .dead (.node .dead (fD 17) (.node .dead (.node .dead (.node .dead (fD 14) (.node .dead (fD 13) (.node .dead
  (.node .dead (lD (.cells 242 9 9 (.node (.ptr 9015 0) (.node (.ptr 9030 0) (.node (.fn (.func 126) [(.ptr 9803 0)] []) (lA (.bool false) 20) (fA 21)) (lA .nilsl 21)) (.node .nil
  (.node .nilsl (lA (nI 0) 20) (fA 21)) (lA .nilsl 21))) true false) 10) (fD 11)) (fD 12)))) (fD 15)) (fD 16))) (fD 18)) (.node (.cells 5 1 64 (fB 24) true false) (fD 18) (.node
  .dead (.node .dead (.node .dead (fD 15) (.node .dead (fD 14) (.node .dead (.node .dead (.node .dead (lD o44 10) (fD 11)) (fD 12)) (fD 13)))) (fD 16)) (fD 17)))))) (.node .dead
  (.node .dead (.node .dead (lD (.cells 5 1 64 (fB 24) true false) 18) (.node .dead (.node .dead (fD 17) (.node .dead (.node .dead (fD 15) (.node .dead (fD 14) (lD (.cells 106 12 12
  (.node (nI 1) (.node (nI 0) (.node (nI 0) (lA (.str (bs [])) 20) (lA (nI 0) 20)) (.node (nU 0) (lA (nI 0) 20) (fA 21))) (.node (nI 0) (.node (nU 0) (lA (nU 0) 20) (fA 21)) (.node
  (nI 0) (lA .nilsl 20) (fA 21)))) true false) 13))) (fD 16))) (fD 18))) (.node .dead (.node .dead (fD 18) (.node .dead (fD 17) (.node .dead (fD 16) (.node .dead (.node .dead (fD 14)
  (.node .dead (.node .dead (.node .dead (lD (.map [⟨(nU 1088), (nI 2), 0⟩] 1) 10) (fD 11)) (fD 12)) (fD 13))) (fD 15))))) (.node .dead (fD 18) (.node .dead (.node .dead (.node .dead
  (fD 15) (.node .dead (fD 14) (.node .dead (.node .dead (.node .dead (lD (.cells 198 4 4 (.node (.ptr 9015 0) (.node (.sl 9016 0 0 1 (.k 1)) (lA (nI 0) 21) (fA 22)) (lA .nilsl 22))
  true false) 10) (fD 11)) (fD 12)) (fD 13)))) (fD 16)) (fD 17))))) (.node .dead (.node .dead (.node .dead (.node .dead (fD 17) (.node .dead (fD 16) (.node .dead (fD 15) (lD o15
  14)))) (fD 18)) (.node .dead (lD (.cells 31 10 10 (.node (.ptr 61 0) (.node (nI 1) (.node (nI 0) (lA .nil 20) (fA 21)) (.node (.bool false) (lA .nilfn 20) (fA 21))) (.node (nI 1)
  (.node .nilsl (lA .nil 20) (fA 21)) (lA .nilsl 21))) true false) 17) (.node .dead (.node .dead (.node .dead (fD 15) (.node .dead (fD 14) (.node .dead (.node .dead (.node .dead (lD
  (.map [] 0) 10) (fD 11)) (fD 12)) (fD 13)))) (fD 16)) (fD 17)))) (.node .dead (.node .dead (.node .dead (fD 17) (.node .dead (.node .dead (.node .dead (fD 14) (.node .dead (fD 13)
  (.node .dead (.node .dead (lD o47 10) (fD 11)) (fD 12)))) (fD 15)) (fD 16))) (.node .dead (fD 17) (.node .dead (fD 16) (.node .dead (.node .dead (fD 14) (.node .dead (.node .dead
  (.node .dead (lD (.cells 348 1 1 (lA .nilsl 23) true false) 10) (fD 11)) (fD 12)) (fD 13))) (fD 15))))) (.node (.cells 114 7 7 (.node (.sl 84 0 0 8 (.u 84 0)) (.node (.sl 82 0 0 8
  (.u 82 0)) (lA (nU 0) 21) (lA (nU 0) 21)) (.node (.map 60) (lA (nU 0) 21) (lA (nU 0) 21))) true false) (.node o1 (.node .dead (.node .dead (fD 15) (.node .dead (fD 14) (.node .dead
  (.node .dead (.node .dead (lD (.cells 46 1 5 (.node (nU 1280) (.node (nU 1664) (lA (nU 1856) 21) (fA 22)) (.node (nU 1472) (lA (nU 1088) 21) (fA 22))) false false) 10) (fD 11)) (fD
  12)) (fD 13)))) (fD 16)) (fD 17)) (.node .dead (.node .dead (.node .dead (fD 15) (.node .dead (fD 14) (.node .dead (.node .dead (.node .dead (lD (.cells 49 10 10 (.node (nI 6)
  (.node (nI 0) (.node (nU 0) (lA (nU 0) 20) (fA 21)) (.node (nI 0) (lA .nilsl 20) (fA 21))) (.node (nI 0) (.node (nU 0) (lA (nI 0) 20) (fA 21)) (lA (.str (bs [])) 21))) true false)
  10) (fD 11)) (fD 12)) (fD 13)))) (.node .dead (fD 15) (.node .dead (.node .dead (fD 13) (.node .dead (fD 12) (.node .dead (lD (.cells 43 1 238 (.node (nU 5929342154728227142)
  (.node (nU 3072) (.node (nU 18446744073709548543) (.node (nU 0) (.node (nU 0) (.node (nU 0) (.node (nU 0) (lA (nU 0) 16) (lA (nU 0) 16)) (.node (nU 0) (lA (nU 0) 16) (lA (nU 0)
  16))) (.node (nU 0) (.node (nU 0) (lA (nU 0) 16) (lA (nU 0) 16)) (.node (nU 0) (lA (nU 0) 16) (fA 17)))) (.node (nU 0) (.node (nU 0) (.node (nU 0) (lA (nU 0) 16) (lA (nU 0) 16))
  (.node (nU 0) (lA (nU 0) 16) (lA (nU 0) 16))) (.node (nU 0) (.node (nU 0) (lA (nU 0) 16) (lA (nU 0) 16)) (.node (nU 0) (lA (nU 0) 16) (fA 17))))) (.node (nU 0) (.node (nU 0) (.node
  (nU 0) (.node (nU 0) (lA (nU 0) 16) (lA (nU 0) 16)) (.node (nU 0) (lA (nU 0) 16) (lA (nU 0) 16))) (.node (nU 0) (.node (nU 0) (lA (nU 0) 16) (lA (nU 0) 16)) (.node (nU 0) (lA (nU
  0) 16) (fA 17)))) (.node (nU 0) (.node (nU 0) (.node (nU 0) (lA (nU 0) 16) (lA (nU 0) 16)) (.node (nU 0) (lA (nU 0) 16) (lA (nU 0) 16))) (.node (nU 0) (.node (nU 0) (lA (nU 0) 16)
  (lA (nU 0) 16)) (.node (nU 0) (lA (nU 0) 16) (fA 17)))))) (.node (nU 0) (.node (nU 0) (.node (nU 0) (.node (nU 0) (.node (nU 0) (lA (nU 1) 16) (lA (nU 0) 16)) (.node (nU 0) (lA (nU
  0) 16) (lA (nU 0) 16))) (.node (nU 0) (.node (nU 0) (lA (nU 0) 16) (lA (nU 0) 16)) (.node (nU 0) (lA (nU 0) 16) (fA 17)))) (.node (nU 0) (.node (nU 0) (.node (nU 0) (lA (nU 0) 16)
  (lA (nU 0) 16)) (.node (nU 0) (lA (nU 0) 16) (lA (nU 0) 16))) (.node (nU 0) (.node (nU 0) (lA (nU 0) 16) (lA (nU 0) 16)) (.node (nU 0) (lA (nU 0) 16) (fA 17))))) (.node (nU 0)
  (.node (nU 0) (.node (nU 0) (.node (nU 0) (lA (nU 0) 16) (lA (nU 0) 16)) (.node (nU 0) (lA (nU 0) 16) (lA (nU 0) 16))) (.node (nU 0) (.node (nU 0) (lA (nU 0) 16) (lA (nU 0) 16))
  (.node (nU 0) (lA (nU 0) 16) (fA 17)))) (.node (nU 0) (.node (nU 0) (.node (nU 0) (lA (nU 0) 16) (lA (nU 0) 16)) (.node (nU 0) (lA (nU 0) 16) (lA (nU 0) 16))) (.node (nU 0) (.node
  (nU 0) (lA (nU 0) 16) (lA (nU 0) 16)) (.node (nU 0) (lA (nU 0) 16) (fA 17))))))) (.node (nU 1088) (.node (nU 0) (.node (nU 0) (.node (nU 0) (.node (nU 0) (.node (nU 0) (lA (nU 3)
  16) (lA (nU 0) 16)) (.node (nU 0) (lA (nU 0) 16) (lA (nU 0) 16))) (.node (nU 0) (.node (nU 0) (lA (nU 0) 16) (lA (nU 0) 16)) (.node (nU 0) (lA (nU 0) 16) (fA 17)))) (.node (nU 0)
  (.node (nU 0) (.node (nU 0) (lA (nU 5495893775785918464) 16) (lA (nU 0) 16)) (.node (nU 0) (lA (nU 0) 16) (lA (nU 0) 16))) (.node (nU 0) (.node (nU 0) (lA (nU 0) 16) (lA (nU 0)
  16)) (.node (nU 0) (lA (nU 0) 16) (fA 17))))) (.node (nU 0) (.node (nU 0) (.node (nU 0) (.node (nU 0) (lA (nU 0) 16) (lA (nU 0) 16)) (.node (nU 0) (lA (nU 0) 16) (lA (nU 0) 16)))
  (.node (nU 0) (.node (nU 0) (lA (nU 0) 16) (lA (nU 0) 16)) (.node (nU 0) (lA (nU 0) 16) (fA 17)))) (.node (nU 0) (.node (nU 0) (.node (nU 0) (lA (nU 1088) 16) (lA (nU 0) 16))
  (.node (nU 0) (lA (nU 0) 16) (lA (nU 0) 16))) (.node (nU 0) (.node (nU 0) (lA (nU 0) 16) (lA (nU 0) 16)) (.node (nU 0) (lA (nU 0) 16) (fA 17)))))) (.node (nU 0) (.node (nU 0)
  (.node (nU 0) (.node (nU 0) (.node (nU 0) (lA (nU 0) 16) (lA (nU 0) 16)) (.node (nU 0) (lA (nU 0) 16) (lA (nU 0) 16))) (.node (nU 0) (.node (nU 0) (lA (nU 0) 16) (lA (nU 0) 16))
  (.node (nU 0) (lA (nU 0) 16) (fA 17)))) (.node (nU 0) (.node (nU 0) (.node (nU 0) (lA (nU 0) 16) (lA (nU 0) 16)) (.node (nU 0) (lA (nU 0) 16) (lA (nU 0) 16))) (.node (nU 0) (.node
  (nU 0) (lA (nU 0) 16) (lA (nU 0) 16)) (.node (nU 0) (lA (nU 0) 16) (fA 17))))) (.node (nU 0) (.node (nU 0) (.node (nU 0) (.node (nU 0) (lA (nU 0) 16) (lA (nU 0) 16)) (.node (nU 0)
  (lA (nU 0) 16) (lA (nU 0) 16))) (.node (nU 0) (.node (nU 0) (lA (nU 0) 16) (lA (nU 0) 16)) (.node (nU 0) (lA (nU 0) 16) (fA 17)))) (.node (nU 0) (.node (nU 0) (.node (nU 0) (lA (nU
  0) 16) (lA (nU 0) 16)) (.node (nU 0) (lA (nU 0) 16) (fA 17))) (.node (nU 0) (.node (nU 0) (lA (nU 0) 16) (lA (nU 0) 16)) (.node (nU 0) (lA (nU 0) 16) (fA 17)))))))) false false)
  10) (fD 11)))) (fD 14)))) (fD 17))))))) (.node .dead (.node .dead (.node .dead (.node .dead (.node .dead (.node .dead (fD 17) (lD (.cells 114 7 7 (.node (.sl 967 0 0 384 (.u 967
  0)) (.node (.sl 965 0 0 384 (.u 965 0)) (lA (nU 622) 21) (lA (nU 0) 21)) (.node (.map 191) (lA (nU 0) 21) (lA (nU 0) 21))) true false) 16)) (fD 18)) (fD 19)) (.node .dead (.node
  .dead (.node .dead (fD 17) (.node .dead (fD 16) (.node .dead (fD 15) (lD (.cells 31 10 10 (.node (.ptr 192 0) (.node (nI 1) (.node (nI 624) (lA (.ptr 9015 0) 20) (fA 21)) (.node
  (.bool true) (lA (.fn (.func 77) [] [(.ptr 9804 0), (.ptr 9026 0)]) 20) (fA 21))) (.node (nI 4) (.node .nilsl (lA (.ptr 9017 0) 20) (fA 21)) (lA .nilsl 21))) true false) 14))))
  (.node .dead (fD 17) (.node .dead (fD 16) (.node .dead (.node .dead (fD 14) (.node .dead (.node .dead (.node .dead (lD (.cells 298 2 6 (.node (nI 0) (.node (nU 0) (lA (nU 1) 21)
  (lA (nU 0) 21)) (.node (nI 3) (lA (nI 0) 21) (fA 22))) true false) 10) (fD 11)) (fD 12)) (fD 13))) (fD 15))))) (.node .dead (fD 18) (.node .dead (.node .dead (.node .dead (fD 15)
  (.node .dead (fD 14) (.node .dead (.node .dead (.node .dead (lD (.cells 204 2 2 (.node .nilif (lA (nI 0) 22) (fA 23)) true false) 10) (fD 11)) (fD 12)) (fD 13)))) (fD 16)) (fD
  17))))) (.node .dead (.node .dead (.node .dead (fD 18) (lD o7 17)) (.node .dead (lD (.cells 43 1 8 (.node (nU 0) (.node (nU 0) (.node (nU 0) (lA (nU 0) 20) (fA 21)) (lA (nU 0) 21))
  (.node (nU 0) (lA (nU 0) 21) (lA (nU 0) 21))) false false) 17) (fD 18))) (.node .dead (.node .dead (.node .dead (fD 17) (.node .dead (.node .dead (.node .dead (fD 14) (.node .dead
  (fD 13) (.node .dead (.node .dead (lD (.cells 174 1 1 (lA (.ptr 9803 0) 23) true false) 10) (fD 11)) (fD 12)))) (fD 15)) (fD 16))) (.node .dead (fD 17) (.node .dead (fD 16) (.node
  .dead (.node .dead (fD 14) (.node .dead (.node .dead (.node .dead (lD (.cells 348 1 1 (lA .nilsl 23) true false) 10) (fD 11)) (fD 12)) (fD 13))) (fD 15))))) (.node (.map [] 0) (fD
  18) (.node .dead (.node .dead (.node .dead (fD 15) (.node .dead (fD 14) (.node .dead (.node .dead (.node .dead (lD (.cells 106 12 12 (.node (nI 2) (.node (nI 0) (.node (nI 0) (lA
  (.str (bs [])) 20) (lA (nI 0) 20)) (.node (nU 0) (lA (nI 0) 20) (fA 21))) (.node (nI 0) (.node (nU 0) (lA (nU 0) 20) (fA 21)) (.node (nI 0) (lA .nilsl 20) (fA 21)))) true false)
  10) (fD 11)) (fD 12)) (fD 13)))) (fD 16)) (fD 17)))))) (.node o1 (.node .dead (.node .dead (.node .dead (.node .dead (fD 17) (.node .dead (.node .dead (fD 15) (.node .dead (fD 14)
  (.node .dead (.node .dead (.node .dead (lD (.cells 22 1 1 (lA (.ptr 968 0) 23) true false) 10) (fD 11)) (fD 12)) (fD 13)))) (fD 16))) (fD 18)) (.node .dead (lD (.cells 43 1 8
  (.node (nU 0) (.node (nU 0) (.node (nU 0) (lA (nU 0) 20) (fA 21)) (lA (nU 0) 21)) (.node (nU 0) (lA (nU 0) 21) (lA (nU 0) 21))) false false) 17) (fD 18))) (.node .dead (.node .dead
  (.node .dead (fD 17) (.node .dead (.node .dead (.node .dead (fD 14) (.node .dead (fD 13) (.node .dead (.node .dead (lD o19 10) (fD 11)) (fD 12)))) (fD 15)) (fD 16))) (.node .dead
  (fD 17) (.node .dead (fD 16) (.node .dead (.node .dead (fD 14) (.node .dead (.node .dead (.node .dead (lD (.cells 294 7 7 (.node (nI 3072) (.node (.sl 8936 0 0 3 (.k 3)) (lA (.ptr
  8941 0) 21) (lA (.ptr 8943 0) 21)) (.node (.ptr 8940 0) (lA (.ptr 8942 0) 21) (lA (.map 8937) 21))) true false) 10) (fD 11)) (fD 12)) (fD 13))) (fD 15))))) (fD 19))) (.node .dead
  (.node .dead (.node .dead (.node .dead (fD 17) (.node .dead (.node .dead (fD 15) (.node .dead (fD 14) (.node .dead (.node .dead (.node .dead (lD (.cells 235 12 12 (.node (.ptr 192
  0) (.node (.sl 9802 238 0 146 (.u 9802 238)) (.node (.fn (.func 118) [(.ptr 9030 0)] []) (lA .nilsl 20) (lA (nI 0) 20)) (.node (nI 0) (lA .nilsl 20) (fA 21))) (.node (.sl 11709 0 0
  238 (.u 11709 0)) (.node (.bool false) (lA .nilsl 20) (fA 21)) (.node .nilsl (lA (nI 0) 20) (fA 21)))) true false) 10) (fD 11)) (fD 12)) (fD 13)))) (fD 16))) (fD 18)) (.node .dead
  (fD 18) (.node .dead (.node .dead (.node .dead (fD 15) (.node .dead (fD 14) (.node .dead (.node .dead (.node .dead (lD o45 10) (fD 11)) (fD 12)) (fD 13)))) (fD 16)) (fD 17))))
  (.node .dead (.node .dead (.node .dead (fD 17) (.node .dead (.node .dead (.node .dead (fD 14) (.node .dead (fD 13) (.node .dead (.node .dead (lD o1 10) (fD 11)) (fD 12)))) (fD 15))
  (fD 16))) (.node .dead (fD 17) (.node .dead (fD 16) (.node .dead (.node .dead (fD 14) (.node .dead (.node .dead (.node .dead (lD (.cells 348 1 1 (lA .nilsl 23) true false) 10) (fD
  11)) (fD 12)) (fD 13))) (fD 15))))) (.node .dead (fD 18) (.node .dead (.node .dead (fD 16) (.node .dead (fD 15) (.node .dead (.node .dead (fD 13) (.node .dead (fD 12) (.node .dead
  (lD (.cells 39 13 13 (.node (nI 623) (.node (nI 7) (.node (nI 0) (lA (nI 0) 20) (lA (nI 0) 20)) (.node (nI 0) (lA .nilsl 20) (fA 21))) (.node (nI 4) (.node (nI 0) (lA (.str (bs
  [])) 20) (lA (nI 0) 20)) (.node (.bool false) (lA (.bool false) 20) (fA 21)))) true false) 10) (fD 11)))) (fD 14)))) (fD 17)))))))), 11711⟩,
  [.code (codeAt Tryz.f58 [1, 0, 1, 0,
  0, 0, 1]), .code (codeAt Tryz.f58 [1, 0, 1, 0, 0, 1]), .lp (codeAt Tryz.f58 [1, 0, 1, 0, 0]), .blk 0, .code (codeAt Tryz.f58 [1, 1])]⟩
/-- where the run stands at the end of part 27 -/
noncomputable def s27 : St :=
  ⟨⟨58, 27, [], .normal, none,
  [o48,
    o46,
    o6]⟩,
  .run,
  (.node (.ptr 968 0) (.node (nI 3136) (.node undefV (.node (.ptr 12270 0) (lU (.ptr 968 0) 19) (lU (.ptr 12270 10)
  19)) (.node (.bool true) (lU (nI 0) 19) (fU 20))) (.node (.bool false) (.node (nI 308) (lU (.tup [(.agg [(nI 693), (nI 7), (nI 4), (nI 0), (nI 0), (nI 0), (.bool false), (nI 0),
  (.str (bs [])), .nilsl, (.bool false), (nI 0), (nI 0)]), (nI 0)]) 19) (fU 20)) (.node (nI 308) (lU (.bool false) 19) (fU 20)))) (.node undefV (.node (.ptr 9806 0) (.node (nI 0) (lU
  (.agg [(nI 7), (nI 0), (nI 0), (nU 0), (nU 0), (nI 0), (.str (bs [])), (nU 0), (nI 0), .nilsl]) 19) (lU (.bool false) 19)) (.node (nI 307) (lU (nI 0) 19) (fU 20))) (.node (nI 308)
  (.node (nI 3136) (lU (.agg [(nI 693), (nI 7), (nI 4), (nI 0), (nI 0), (nI 0), (.bool false), (nI 0), (.str (bs [])), .nilsl, (.bool false), (nI 0), (nI 0)]) 19) (fU 20)) (lU (.tup
  [(.agg [(nI 693), (nI 7), (nI 4), (nI 0), (nI 0), (nI 0), (.bool false), (nI 0), (.str (bs [])), .nilsl, (.bool false), (nI 0), (nI 0)]), (nI 0)]) 20)))),
  ⟨(.node (.cells 31 10
  10 (.node .nil (.node (nI 0) (.node (nI 0) (lA .nil 20) (fA 21)) (.node (.bool false) (lA .nilfn 20) (fA 21))) (.node (nI 0) (.node .nilsl (lA .nil 20) (fA 21)) (lA .nilsl 21)))
  true false) (.node .dead (.node o1 (.node (.cells 5 1 64 (fB 24) true false) (.node .dead (.node .dead (.node .dead (fD 17) (lD (.map [] 0) 16)) (fD 18)) (.node .dead (fD 18)
  (.node .dead (fD 17) (.node .dead (fD 16) (.node .dead (.node .dead (fD 14) (.node .dead (.node .dead (.node .dead (lD (.cells 348 1 1 (lA (.sl 8989 0 0 4 (.u 8989 0)) 23) true
  false) 10) (fD 11)) (fD 12)) (fD 13))) (fD 15)))))) (.node .dead (.node .dead (.node .dead (fD 17) (.node .dead (fD 16) (.node .dead (fD 15) (lD o15 14)))) (fD 18)) (.node .dead
  (fD 18) (.node .dead (.node .dead (.node .dead (fD 15) (.node .dead (fD 14) (.node .dead (.node .dead (.node .dead (lD (.cells 211 3 3 (.node (.ptr 192 0) (lA (.ptr 8938 0) 22) (lA
  (.ptr 9014 0) 22)) true false) 10) (fD 11)) (fD 12)) (fD 13)))) (fD 16)) (fD 17))))) (.node .dead (.node .dead (.node .dead (fD 18) (lD (.cells 99 3 3 (.node .nilsl (lA .nilsl 22)
  (lA (.bool false) 22)) false false) 17)) (fD 19)) (.node .dead (.node .dead (.node .dead (fD 17) (.node .dead (.node .dead (.node .dead (fD 14) (.node .dead (fD 13) (.node .dead
  (.node .dead (lD (.cells 242 9 9 (.node (.ptr 9015 0) (.node (.ptr 9030 0) (.node (.fn (.func 126) [(.ptr 9803 0)] []) (lA (.bool false) 20) (fA 21)) (lA .nilsl 21)) (.node .nil
  (.node .nilsl (lA (nI 0) 20) (fA 21)) (lA .nilsl 21))) true false) 10) (fD 11)) (fD 12)))) (fD 15)) (fD 16))) (fD 18)) (.node (.cells 5 1 64 (fB 24) true false) (fD 18) (.node
  .dead (.node .dead (.node .dead (fD 15) (.node .dead (fD 14) (.node .dead (.node .dead (.node .dead (lD o44 10) (fD 11)) (fD 12)) (fD 13)))) (fD 16)) (fD 17)))))) (.node .dead
  (.node .dead (.node .dead (lD (.cells 5 1 64 (fB 24) true false) 18) (.node .dead (.node .dead (fD 17) (.node .dead (.node .dead (fD 15) (.node .dead (fD 14) (lD (.cells 106 12 12
  (.node (nI 1) (.node (nI 0) (.node (nI 0) (lA (.str (bs [])) 20) (lA (nI 0) 20)) (.node (nU 0) (lA (nI 0) 20) (fA 21))) (.node (nI 0) (.node (nU 0) (lA (nU 0) 20) (fA 21)) (.node
  (nI 0) (lA .nilsl 20) (fA 21)))) true false) 13))) (fD 16))) (fD 18))) (.node .dead (.node .dead (fD 18) (.node .dead (fD 17) (.node .dead (fD 16) (.node .dead (.node .dead (fD 14)
  (.node .dead (.node .dead (.node .dead (lD (.map [⟨(nU 1088), (nI 2), 0⟩] 1) 10) (fD 11)) (fD 12)) (fD 13))) (fD 15))))) (.node .dead (fD 18) (.node .dead (.node .dead (.node .dead
  (fD 15) (.node .dead (fD 14) (.node .dead (.node .dead (.node .dead (lD (.cells 198 4 4 (.node (.ptr 9015 0) (.node (.sl 9016 0 0 1 (.k 1)) (lA (nI 0) 21) (fA 22)) (lA .nilsl 22))
  true false) 10) (fD 11)) (fD 12)) (fD 13)))) (fD 16)) (fD 17))))) (.node .dead (.node .dead (.node .dead (.node .dead (fD 17) (.node .dead (fD 16) (.node .dead (fD 15) (lD o15
  14)))) (fD 18)) (.node .dead (lD (.cells 31 10 10 (.node (.ptr 61 0) (.node (nI 1) (.node (nI 0) (lA .nil 20) (fA 21)) (.node (.bool false) (lA .nilfn 20) (fA 21))) (.node (nI 1)
  (.node .nilsl (lA .nil 20) (fA 21)) (lA .nilsl 21))) true false) 17) (.node .dead (.node .dead (.node .dead (fD 15) (.node .dead (fD 14) (.node .dead (.node .dead (.node .dead (lD
  (.map [] 0) 10) (fD 11)) (fD 12)) (fD 13)))) (fD 16)) (fD 17)))) (.node .dead (.node .dead (.node .dead (fD 17) (.node .dead (.node .dead (.node .dead (fD 14) (.node .dead (fD 13)
  (.node .dead (.node .dead (lD o47 10) (fD 11)) (fD 12)))) (fD 15)) (fD 16))) (.node .dead (fD 17) (.node .dead (fD 16) (.node .dead (.node .dead (fD 14) (.node .dead (.node .dead
  (.node .dead (lD (.cells 348 1 1 (lA .nilsl 23) true false) 10) (fD 11)) (fD 12)) (fD 13))) (.node .dead (fD 14) (.node .dead (fD 13) (.node .dead (fD 12) (.node .dead (lD (.cells
  43 1 308 (.node (nU 5929342154728227142) (.node (nU 3072) (.node (nU 18446744073709548543) (.node (nU 0) (.node (nU 0) (.node (nU 0) (.node (nU 0) (.node (nU 0) (lA (nU 0) 15) (fA
  16)) (lA (nU 0) 16)) (.node (nU 0) (.node (nU 0) (lA (nU 0) 15) (fA 16)) (lA (nU 0) 16))) (.node (nU 0) (.node (nU 0) (.node (nU 0) (lA (nU 0) 15) (fA 16)) (lA (nU 0) 16)) (.node
  (nU 0) (.node (nU 0) (lA (nU 0) 15) (fA 16)) (lA (nU 0) 16)))) (.node (nU 0) (.node (nU 0) (.node (nU 0) (.node (nU 0) (lA (nU 0) 15) (fA 16)) (lA (nU 0) 16)) (.node (nU 0) (.node
  (nU 0) (lA (nU 0) 15) (fA 16)) (lA (nU 0) 16))) (.node (nU 0) (.node (nU 0) (.node (nU 0) (lA (nU 0) 15) (fA 16)) (lA (nU 0) 16)) (.node (nU 0) (lA (nU 0) 16) (lA (nU 0) 16)))))
  (.node (nU 0) (.node (nU 0) (.node (nU 0) (.node (nU 0) (.node (nU 0) (lA (nU 0) 15) (fA 16)) (lA (nU 0) 16)) (.node (nU 0) (.node (nU 0) (lA (nU 0) 15) (fA 16)) (lA (nU 0) 16)))
  (.node (nU 0) (.node (nU 0) (.node (nU 0) (lA (nU 0) 15) (fA 16)) (lA (nU 0) 16)) (.node (nU 0) (.node (nU 0) (lA (nU 0) 15) (fA 16)) (lA (nU 0) 16)))) (.node (nU 0) (.node (nU 0)
  (.node (nU 0) (.node (nU 0) (lA (nU 0) 15) (fA 16)) (lA (nU 0) 16)) (.node (nU 0) (.node (nU 0) (lA (nU 0) 15) (fA 16)) (lA (nU 0) 16))) (.node (nU 0) (.node (nU 0) (.node (nU 0)
  (lA (nU 0) 15) (fA 16)) (lA (nU 0) 16)) (.node (nU 0) (lA (nU 0) 16) (lA (nU 0) 16)))))) (.node (nU 0) (.node (nU 0) (.node (nU 0) (.node (nU 0) (.node (nU 0) (.node (nU 1) (lA (nU
  0) 15) (fA 16)) (lA (nU 0) 16)) (.node (nU 0) (.node (nU 0) (lA (nU 0) 15) (fA 16)) (lA (nU 0) 16))) (.node (nU 0) (.node (nU 0) (.node (nU 0) (lA (nU 0) 15) (fA 16)) (lA (nU 0)
  16)) (.node (nU 0) (.node (nU 0) (lA (nU 0) 15) (fA 16)) (lA (nU 0) 16)))) (.node (nU 0) (.node (nU 0) (.node (nU 0) (.node (nU 0) (lA (nU 0) 15) (fA 16)) (lA (nU 0) 16)) (.node
  (nU 0) (.node (nU 0) (lA (nU 0) 15) (fA 16)) (lA (nU 0) 16))) (.node (nU 0) (.node (nU 0) (.node (nU 0) (lA (nU 0) 15) (fA 16)) (lA (nU 0) 16)) (.node (nU 0) (lA (nU 0) 16) (lA (nU
  0) 16))))) (.node (nU 0) (.node (nU 0) (.node (nU 0) (.node (nU 0) (.node (nU 0) (lA (nU 0) 15) (fA 16)) (lA (nU 0) 16)) (.node (nU 0) (.node (nU 0) (lA (nU 0) 15) (fA 16)) (lA (nU
  0) 16))) (.node (nU 0) (.node (nU 0) (.node (nU 0) (lA (nU 0) 15) (fA 16)) (lA (nU 0) 16)) (.node (nU 0) (lA (nU 0) 16) (lA (nU 0) 16)))) (.node (nU 0) (.node (nU 0) (.node (nU 0)
  (.node (nU 0) (lA (nU 0) 15) (fA 16)) (lA (nU 0) 16)) (.node (nU 0) (.node (nU 0) (lA (nU 0) 15) (fA 16)) (lA (nU 0) 16))) (.node (nU 0) (.node (nU 0) (.node (nU 0) (lA (nU 0) 15)
  (fA 16)) (lA (nU 0) 16)) (.node (nU 0) (lA (nU 0) 16) (lA (nU 0) 16))))))) (.node (nU 1088) (.node (nU 0) (.node (nU 0) (.node (nU 0) (.node (nU 0) (.node (nU 0) (.node (nU 3) (lA
  (nU 0) 15) (fA 16)) (lA (nU 0) 16)) (.node (nU 0) (.node (nU 0) (lA (nU 0) 15) (fA 16)) (lA (nU 0) 16))) (.node (nU 0) (.node (nU 0) (.node (nU 0) (lA (nU 0) 15) (fA 16)) (lA (nU
  0) 16)) (.node (nU 0) (.node (nU 0) (lA (nU 0) 15) (fA 16)) (lA (nU 0) 16)))) (.node (nU 0) (.node (nU 0) (.node (nU 0) (.node (nU 5495893775785918464) (lA (nU 0) 15) (fA 16)) (lA
  (nU 0) 16)) (.node (nU 0) (.node (nU 0) (lA (nU 0) 15) (fA 16)) (lA (nU 0) 16))) (.node (nU 0) (.node (nU 0) (.node (nU 0) (lA (nU 0) 15) (fA 16)) (lA (nU 0) 16)) (.node (nU 0) (lA
  (nU 0) 16) (lA (nU 0) 16))))) (.node (nU 0) (.node (nU 0) (.node (nU 0) (.node (nU 0) (.node (nU 0) (lA (nU 0) 15) (fA 16)) (lA (nU 0) 16)) (.node (nU 0) (.node (nU 0) (lA (nU 0)
  15) (fA 16)) (lA (nU 0) 16))) (.node (nU 0) (.node (nU 0) (.node (nU 0) (lA (nU 0) 15) (fA 16)) (lA (nU 0) 16)) (.node (nU 0) (lA (nU 0) 16) (lA (nU 0) 16)))) (.node (nU 0) (.node
  (nU 0) (.node (nU 0) (.node (nU 1088) (lA (nU 0) 15) (fA 16)) (lA (nU 0) 16)) (.node (nU 0) (.node (nU 0) (lA (nU 0) 15) (fA 16)) (lA (nU 0) 16))) (.node (nU 0) (.node (nU 0)
  (.node (nU 0) (lA (nU 0) 15) (fA 16)) (lA (nU 0) 16)) (.node (nU 0) (lA (nU 0) 16) (lA (nU 0) 16)))))) (.node (nU 0) (.node (nU 0) (.node (nU 0) (.node (nU 0) (.node (nU 0) (.node
  (nU 0) (lA (nU 0) 15) (fA 16)) (lA (nU 0) 16)) (.node (nU 0) (.node (nU 0) (lA (nU 0) 15) (fA 16)) (lA (nU 0) 16))) (.node (nU 0) (.node (nU 0) (.node (nU 0) (lA (nU 0) 15) (fA
  16)) (lA (nU 0) 16)) (.node (nU 0) (.node (nU 0) (lA (nU 0) 15) (fA 16)) (lA (nU 0) 16)))) (.node (nU 0) (.node (nU 0) (.node (nU 0) (.node (nU 0) (lA (nU 0) 15) (fA 16)) (lA (nU
  0) 16)) (.node (nU 0) (.node (nU 0) (lA (nU 0) 15) (fA 16)) (lA (nU 0) 16))) (.node (nU 0) (.node (nU 0) (.node (nU 0) (lA (nU 0) 15) (fA 16)) (lA (nU 0) 16)) (.node (nU 0) (lA (nU
  0) 16) (lA (nU 0) 16))))) (.node (nU 0) (.node (nU 0) (.node (nU 0) (.node (nU 0) (.node (nU 0) (lA (nU 0) 15) (fA 16)) (lA (nU 0) 16)) (.node (nU 0) (.node (nU 0) (lA (nU 0) 15)
  (fA 16)) (lA (nU 0) 16))) (.node (nU 0) (.node (nU 0) (.node (nU 0) (lA (nU 0) 15) (fA 16)) (lA (nU 0) 16)) (.node (nU 0) (lA (nU 0) 16) (lA (nU 0) 16)))) (.node (nU 0) (.node (nU
  0) (.node (nU 0) (.node (nU 0) (lA (nU 0) 15) (fA 16)) (lA (nU 0) 16)) (.node (nU 0) (.node (nU 0) (lA (nU 0) 15) (fA 16)) (lA (nU 0) 16))) (.node (nU 0) (.node (nU 0) (.node (nU
  0) (lA (nU 0) 15) (fA 16)) (lA (nU 0) 16)) (.node (nU 0) (lA (nU 0) 16) (lA (nU 0) 16)))))))) false false) 10) (fD 11))))))))) (.node (.cells 114 7 7 (.node (.sl 84 0 0 8 (.u 84
  0)) (.node (.sl 82 0 0 8 (.u 82 0)) (lA (nU 0) 21) (lA (nU 0) 21)) (.node (.map 60) (lA (nU 0) 21) (lA (nU 0) 21))) true false) (.node o1 (.node .dead (.node .dead (fD 15) (.node
  .dead (fD 14) (.node .dead (.node .dead (.node .dead (lD (.cells 46 1 5 (.node (nU 1280) (.node (nU 1664) (lA (nU 1856) 21) (fA 22)) (.node (nU 1472) (lA (nU 1088) 21) (fA 22)))
  false false) 10) (fD 11)) (fD 12)) (fD 13)))) (fD 16)) (fD 17)) (.node .dead (.node .dead (.node .dead (fD 15) (.node .dead (fD 14) (.node .dead (.node .dead (.node .dead (lD
  (.cells 49 10 10 (.node (nI 6) (.node (nI 0) (.node (nU 0) (lA (nU 0) 20) (fA 21)) (.node (nI 0) (lA .nilsl 20) (fA 21))) (.node (nI 0) (.node (nU 0) (lA (nI 0) 20) (fA 21)) (lA
  (.str (bs [])) 21))) true false) 10) (fD 11)) (fD 12)) (fD 13)))) (fD 16)) (fD 17))))))) (.node .dead (.node .dead (.node .dead (.node .dead (.node .dead (.node .dead (fD 17) (lD
  (.cells 114 7 7 (.node (.sl 967 0 0 384 (.u 967 0)) (.node (.sl 965 0 0 384 (.u 965 0)) (lA (nU 692) 21) (lA (nU 0) 21)) (.node (.map 191) (lA (nU 0) 21) (lA (nU 0) 21))) true
  false) 16)) (fD 18)) (fD 19)) (.node .dead (.node .dead (.node .dead (fD 17) (.node .dead (fD 16) (.node .dead (fD 15) (lD (.cells 31 10 10 (.node (.ptr 192 0) (.node (nI 1) (.node
  (nI 694) (lA (.ptr 9015 0) 20) (fA 21)) (.node (.bool true) (lA (.fn (.func 77) [] [(.ptr 9804 0), (.ptr 9026 0)]) 20) (fA 21))) (.node (nI 4) (.node .nilsl (lA (.ptr 9017 0) 20)
  (fA 21)) (lA .nilsl 21))) true false) 14)))) (.node .dead (fD 17) (.node .dead (fD 16) (.node .dead (.node .dead (fD 14) (.node .dead (.node .dead (.node .dead (lD (.cells 298 2 6
  (.node (nI 0) (.node (nU 0) (lA (nU 1) 21) (lA (nU 0) 21)) (.node (nI 3) (lA (nI 0) 21) (fA 22))) true false) 10) (fD 11)) (fD 12)) (fD 13))) (fD 15))))) (.node .dead (fD 18)
  (.node .dead (.node .dead (.node .dead (fD 15) (.node .dead (fD 14) (.node .dead (.node .dead (.node .dead (lD (.cells 204 2 2 (.node .nilif (lA (nI 0) 22) (fA 23)) true false) 10)
  (fD 11)) (fD 12)) (fD 13)))) (fD 16)) (fD 17))))) (.node .dead (.node .dead (.node .dead (fD 18) (lD o7 17)) (.node .dead (lD (.cells 43 1 8 (.node (nU 0) (.node (nU 0) (.node (nU
  0) (lA (nU 0) 20) (fA 21)) (lA (nU 0) 21)) (.node (nU 0) (lA (nU 0) 21) (lA (nU 0) 21))) false false) 17) (fD 18))) (.node .dead (.node .dead (.node .dead (fD 17) (.node .dead
  (.node .dead (.node .dead (fD 14) (.node .dead (fD 13) (.node .dead (.node .dead (lD (.cells 174 1 1 (lA (.ptr 9803 0) 23) true false) 10) (fD 11)) (fD 12)))) (fD 15)) (fD 16)))
  (.node .dead (fD 17) (.node .dead (fD 16) (.node .dead (.node .dead (fD 14) (.node .dead (.node .dead (.node .dead (lD (.cells 348 1 1 (lA .nilsl 23) true false) 10) (fD 11)) (fD
  12)) (fD 13))) (fD 15))))) (.node (.map [] 0) (fD 18) (.node .dead (.node .dead (.node .dead (fD 15) (.node .dead (fD 14) (.node .dead (.node .dead (.node .dead (lD (.cells 106 12
  12 (.node (nI 2) (.node (nI 0) (.node (nI 0) (lA (.str (bs [])) 20) (lA (nI 0) 20)) (.node (nU 0) (lA (nI 0) 20) (fA 21))) (.node (nI 0) (.node (nU 0) (lA (nU 0) 20) (fA 21))
  (.node (nI 0) (lA .nilsl 20) (fA 21)))) true false) 10) (fD 11)) (fD 12)) (fD 13)))) (fD 16)) (fD 17)))))) (.node o1 (.node .dead (.node .dead (.node .dead (.node .dead (fD 17)
  (.node .dead (.node .dead (fD 15) (.node .dead (fD 14) (.node .dead (.node .dead (.node .dead (lD (.cells 22 1 1 (lA (.ptr 968 0) 23) true false) 10) (fD 11)) (fD 12)) (fD 13))))
  (fD 16))) (fD 18)) (.node .dead (lD (.cells 43 1 8 (.node (nU 0) (.node (nU 0) (.node (nU 0) (lA (nU 0) 20) (fA 21)) (lA (nU 0) 21)) (.node (nU 0) (lA (nU 0) 21) (lA (nU 0) 21)))
  false false) 17) (fD 18))) (.node .dead (.node .dead (.node .dead (fD 17) (.node .dead (.node .dead (.node .dead (fD 14) (.node .dead (fD 13) (.node .dead (.node .dead (lD o19 10)
  (fD 11)) (fD 12)))) (fD 15)) (fD 16))) (.node .dead (fD 17) (.node .dead (fD 16) (.node .dead (.node .dead (fD 14) (.node .dead (.node .dead (.node .dead (lD (.cells 294 7 7 (.node
  (nI 3072) (.node (.sl 8936 0 0 3 (.k 3)) (lA (.ptr 8941 0) 21) (lA (.ptr 8943 0) 21)) (.node (.ptr 8940 0) (lA (.ptr 8942 0) 21) (lA (.map 8937) 21))) true false) 10) (fD 11)) (fD
  12)) (fD 13))) (fD 15))))) (fD 19))) (.node .dead (.node .dead (.node .dead (.node .dead (fD 17) (.node .dead (.node .dead (fD 15) (.node .dead (fD 14) (.node .dead (.node .dead
  (.node .dead (lD (.cells 235 12 12 (.node (.ptr 192 0) (.node (.sl 9802 308 0 76 (.u 9802 308)) (.node (.fn (.func 118) [(.ptr 9030 0)] []) (lA .nilsl 20) (lA (nI 0) 20)) (.node
  (nI 0) (lA .nilsl 20) (fA 21))) (.node (.sl 12269 0 0 308 (.u 12269 0)) (.node (.bool false) (lA .nilsl 20) (fA 21)) (.node .nilsl (lA (nI 0) 20) (fA 21)))) true false) 10) (fD
  11)) (fD 12)) (fD 13)))) (fD 16))) (fD 18)) (.node .dead (fD 18) (.node .dead (.node .dead (.node .dead (fD 15) (.node .dead (fD 14) (.node .dead (.node .dead (.node .dead (lD o45
  10) (fD 11)) (fD 12)) (fD 13)))) (fD 16)) (fD 17)))) (.node .dead (.node .dead (.node .dead (fD 17) (.node .dead (.node .dead (.node .dead (fD 14) (.node .dead (fD 13) (.node .dead
  (.node .dead (lD o1 10) (fD 11)) (fD 12)))) (fD 15)) (fD 16))) (.node .dead (fD 17) (.node .dead (fD 16) (.node .dead (.node .dead (fD 14) (.node .dead (.node .dead (.node .dead
  (lD (.cells 348 1 1 (lA .nilsl 23) true false) 10) (fD 11)) (fD 12)) (fD 13))) (.node .dead (fD 14) (.node .dead (fD 13) (.node .dead (fD 12) (.node .dead (lD (.cells 39 13 13
  (.node (nI 693) (.node (nI 7) (.node (nI 0) (lA (nI 0) 20) (lA (nI 0) 20)) (.node (nI 0) (lA .nilsl 20) (fA 21))) (.node (nI 4) (.node (nI 0) (lA (.str (bs [])) 20) (lA (nI 0) 20))
  (.node (.bool false) (lA (.bool false) 20) (fA 21)))) true false) 10) (fD 11))))))))) (fD 19)))))), 12271⟩,
  [.code (codeAt Tryz.f58 [1, 0, 1, 0, 0, 0, 1]), .code (codeAt Tryz.f58
  [1, 0, 1, 0, 0, 1]), .lp (codeAt Tryz.f58 [1, 0, 1, 0, 0]), .blk 0, .code (codeAt Tryz.f58 [1, 1])]⟩
/-- where the run stands at the end of part 28 -/
noncomputable def s28 : St :=
  ⟨⟨58, 27, [], .normal, none,
  [o48,
    o46,
    o6]⟩,
  .run,
  (.node (.ptr 968 0) (.node (nI 3136) (.node undefV (.node (.ptr 12830 0) (lU (.ptr 968 0) 19) (lU (.ptr 12830 10)
  19)) (.node (.bool true) (lU (nI 0) 19) (fU 20))) (.node (.bool false) (.node (nI 378) (lU (.tup [(.agg [(nI 763), (nI 7), (nI 4), (nI 0), (nI 0), (nI 0), (.bool false), (nI 0),
  (.str (bs [])), .nilsl, (.bool false), (nI 0), (nI 0)]), (nI 0)]) 19) (fU 20)) (.node (nI 378) (lU (.bool false) 19) (fU 20)))) (.node undefV (.node (.ptr 9806 0) (.node (nI 0) (lU
  (.agg [(nI 7), (nI 0), (nI 0), (nU 0), (nU 0), (nI 0), (.str (bs [])), (nU 0), (nI 0), .nilsl]) 19) (lU (.bool false) 19)) (.node (nI 377) (lU (nI 0) 19) (fU 20))) (.node (nI 378)
  (.node (nI 3136) (lU (.agg [(nI 763), (nI 7), (nI 4), (nI 0), (nI 0), (nI 0), (.bool false), (nI 0), (.str (bs [])), .nilsl, (.bool false), (nI 0), (nI 0)]) 19) (fU 20)) (lU (.tup
  [(.agg [(nI 763), (nI 7), (nI 4), (nI 0), (nI 0), (nI 0), (.bool false), (nI 0), (.str (bs [])), .nilsl, (.bool false), (nI 0), (nI 0)]), (nI 0)]) 20)))),
  ⟨(.node (.cells 31 10
  10 (.node .nil (.node (nI 0) (.node (nI 0) (lA .nil 20) (fA 21)) (.node (.bool false) (lA .nilfn 20) (fA 21))) (.node (nI 0) (.node .nilsl (lA .nil 20) (fA 21)) (lA .nilsl 21)))
  true false) (.node .dead (.node o1 (.node (.cells 5 1 64 (fB 24) true false) (.node .dead (.node .dead (.node .dead (fD 17) (lD (.map [] 0) 16)) (fD 18)) (.node .dead (fD 18)
  (.node .dead (fD 17) (.node .dead (fD 16) (.node .dead (.node .dead (fD 14) (.node .dead (.node .dead (.node .dead (lD (.cells 348 1 1 (lA (.sl 8989 0 0 4 (.u 8989 0)) 23) true
  false) 10) (fD 11)) (fD 12)) (fD 13))) (fD 15)))))) (.node .dead (.node .dead (.node .dead (fD 17) (.node .dead (fD 16) (.node .dead (fD 15) (lD o15 14)))) (fD 18)) (.node .dead
  (fD 18) (.node .dead (.node .dead (.node .dead (fD 15) (.node .dead (fD 14) (.node .dead (.node .dead (.node .dead (lD (.cells 211 3 3 (.node (.ptr 192 0) (lA (.ptr 8938 0) 22) (lA
  (.ptr 9014 0) 22)) true false) 10) (fD 11)) (fD 12)) (fD 13)))) (fD 16)) (fD 17))))) (.node .dead (.node .dead (.node .dead (fD 18) (lD (.cells 99 3 3 (.node .nilsl (lA .nilsl 22)
  (lA (.bool false) 22)) false false) 17)) (fD 19)) (.node .dead (.node .dead (.node .dead (fD 17) (.node .dead (.node .dead (.node .dead (fD 14) (.node .dead (fD 13) (.node .dead
  (.node .dead (lD (.cells 242 9 9 (.node (.ptr 9015 0) (.node (.ptr 9030 0) (.node (.fn (.func 126) [(.ptr 9803 0)] []) (lA (.bool false) 20) (fA 21)) (lA .nilsl 21)) (.node .nil
  (.node .nilsl (lA (nI 0) 20) (fA 21)) (lA .nilsl 21))) true false) 10) (fD 11)) (fD 12)))) (fD 15)) (fD 16))) (fD 18)) (.node (.cells 5 1 64 (fB 24) true false) (fD 18) (.node
  .dead (.node .dead (.node .dead (fD 15) (.node .dead (fD 14) (.node .dead (.node .dead (.node .dead (lD o44 10) (fD 11)) (fD 12)) (fD 13)))) (fD 16)) (fD 17)))))) (.node .dead
  (.node .dead (.node .dead (lD (.cells 5 1 64 (fB 24) true false) 18) (.node .dead (.node .dead (fD 17) (.node .dead (.node .dead (fD 15) (.node .dead (fD 14) (lD (.cells 106 12 12
  (.node (nI 1) (.node (nI 0) (.node (nI 0) (lA (.str (bs [])) 20) (lA (nI 0) 20)) (.node (nU 0) (lA (nI 0) 20) (fA 21))) (.node (nI 0) (.node (nU 0) (lA (nU 0) 20) (fA 21)) (.node
  (nI 0) (lA .nilsl 20) (fA 21)))) true false) 13))) (fD 16))) (fD 18))) (.node .dead (.node .dead (fD 18) (.node .dead (fD 17) (.node .dead (fD 16) (.node .dead (.node .dead (fD 14)
  (.node .dead (.node .dead (.node .dead (lD (.map [⟨(nU 1088), (nI 2), 0⟩] 1) 10) (fD 11)) (fD 12)) (fD 13))) (fD 15))))) (.node .dead (fD 18) (.node .dead (.node .dead (.node .dead
  (fD 15) (.node .dead (fD 14) (.node .dead (.node .dead (.node .dead (lD (.cells 198 4 4 (.node (.ptr 9015 0) (.node (.sl 9016 0 0 1 (.k 1)) (lA (nI 0) 21) (fA 22)) (lA .nilsl 22))
  true false) 10) (fD 11)) (fD 12)) (fD 13)))) (fD 16)) (fD 17))))) (.node .dead (.node .dead (.node .dead (.node .dead (fD 17) (.node .dead (fD 16) (.node .dead (fD 15) (lD o15
  14)))) (fD 18)) (.node .dead (lD (.cells 31 10 10 (.node (.ptr 61 0) (.node (nI 1) (.node (nI 0) (lA .nil 20) (fA 21)) (.node (.bool false) (lA .nilfn 20) (fA 21))) (.node (nI 1)
  (.node .nilsl (lA .nil 20) (fA 21)) (lA .nilsl 21))) true false) 17) (.node .dead (.node .dead (.node .dead (fD 15) (.node .dead (fD 14) (.node .dead (.node .dead (.node .dead (lD
  (.map [] 0) 10) (fD 11)) (fD 12)) (fD 13)))) (fD 16)) (fD 17)))) (.node .dead (.node .dead (.node .dead (fD 17) (.node .dead (.node .dead (.node .dead (fD 14) (.node .dead (fD 13)
  (.node .dead (.node .dead (lD o47 10) (fD 11)) (fD 12)))) (fD 15)) (fD 16))) (.node .dead (fD 17) (.node .dead (fD 16) (.node .dead (.node .dead (fD 14) (.node .dead (.node .dead
  (.node .dead (lD (.cells 348 1 1 (lA .nilsl 23) true false) 10) (fD 11)) (fD 12)) (fD 13))) (fD 15))))) (.node (.cells 114 7 7 (.node (.sl 84 0 0 8 (.u 84 0)) (.node (.sl 82 0 0 8
  (.u 82 0)) (lA (nU 0) 21) (lA (nU 0) 21)) (.node (.map 60) (lA (nU 0) 21) (lA (nU 0) 21))) true false) (.node o1 (.node .dead (.node .dead (.node .dead (fD 14) (.node .dead (.node
  .dead (.node .dead (fD 11) (lD (.cells 43 1 378 (.node (nU 5929342154728227142) (.node (nU 3072) (.node (nU 18446744073709548543) (.node (nU 0) (.node (nU 0) (.node (nU 0) (.node
  (nU 0) (.node (nU 0) (lA (nU 0) 15) (fA 16)) (.node (nU 0) (lA (nU 0) 15) (fA 16))) (.node (nU 0) (.node (nU 0) (lA (nU 0) 15) (fA 16)) (.node (nU 0) (lA (nU 0) 15) (fA 16))))
  (.node (nU 0) (.node (nU 0) (.node (nU 0) (lA (nU 0) 15) (fA 16)) (.node (nU 0) (lA (nU 0) 15) (fA 16))) (.node (nU 0) (.node (nU 0) (lA (nU 0) 15) (fA 16)) (.node (nU 0) (lA (nU
  0) 15) (fA 16))))) (.node (nU 0) (.node (nU 0) (.node (nU 0) (.node (nU 0) (lA (nU 0) 15) (fA 16)) (.node (nU 0) (lA (nU 0) 15) (fA 16))) (.node (nU 0) (.node (nU 0) (lA (nU 0) 15)
  (fA 16)) (.node (nU 0) (lA (nU 0) 15) (fA 16)))) (.node (nU 0) (.node (nU 0) (.node (nU 0) (lA (nU 0) 15) (fA 16)) (.node (nU 0) (lA (nU 0) 15) (fA 16))) (.node (nU 0) (.node (nU
  0) (lA (nU 0) 15) (fA 16)) (.node (nU 0) (lA (nU 0) 15) (fA 16)))))) (.node (nU 0) (.node (nU 0) (.node (nU 0) (.node (nU 0) (.node (nU 0) (lA (nU 0) 15) (fA 16)) (.node (nU 0) (lA
  (nU 0) 15) (fA 16))) (.node (nU 0) (.node (nU 0) (lA (nU 0) 15) (fA 16)) (.node (nU 0) (lA (nU 0) 15) (fA 16)))) (.node (nU 0) (.node (nU 0) (.node (nU 0) (lA (nU 0) 15) (fA 16))
  (.node (nU 0) (lA (nU 0) 15) (fA 16))) (.node (nU 0) (.node (nU 0) (lA (nU 0) 15) (fA 16)) (.node (nU 0) (lA (nU 0) 15) (fA 16))))) (.node (nU 0) (.node (nU 0) (.node (nU 0) (.node
  (nU 0) (lA (nU 0) 15) (fA 16)) (.node (nU 0) (lA (nU 0) 15) (fA 16))) (.node (nU 0) (.node (nU 0) (lA (nU 0) 15) (fA 16)) (.node (nU 0) (lA (nU 0) 15) (fA 16)))) (.node (nU 0)
  (.node (nU 0) (.node (nU 0) (lA (nU 0) 15) (fA 16)) (.node (nU 0) (lA (nU 0) 15) (fA 16))) (.node (nU 0) (.node (nU 0) (lA (nU 0) 15) (fA 16)) (lA (nU 0) 16)))))) (.node (nU 0)
  (.node (nU 0) (.node (nU 0) (.node (nU 0) (.node (nU 0) (.node (nU 1) (lA (nU 0) 15) (fA 16)) (.node (nU 0) (lA (nU 0) 15) (fA 16))) (.node (nU 0) (.node (nU 0) (lA (nU 0) 15) (fA
  16)) (.node (nU 0) (lA (nU 0) 15) (fA 16)))) (.node (nU 0) (.node (nU 0) (.node (nU 0) (lA (nU 0) 15) (fA 16)) (.node (nU 0) (lA (nU 0) 15) (fA 16))) (.node (nU 0) (.node (nU 0)
  (lA (nU 0) 15) (fA 16)) (.node (nU 0) (lA (nU 0) 15) (fA 16))))) (.node (nU 0) (.node (nU 0) (.node (nU 0) (.node (nU 0) (lA (nU 0) 15) (fA 16)) (.node (nU 0) (lA (nU 0) 15) (fA
  16))) (.node (nU 0) (.node (nU 0) (lA (nU 0) 15) (fA 16)) (.node (nU 0) (lA (nU 0) 15) (fA 16)))) (.node (nU 0) (.node (nU 0) (.node (nU 0) (lA (nU 0) 15) (fA 16)) (.node (nU 0)
  (lA (nU 0) 15) (fA 16))) (.node (nU 0) (.node (nU 0) (lA (nU 0) 15) (fA 16)) (.node (nU 0) (lA (nU 0) 15) (fA 16)))))) (.node (nU 0) (.node (nU 0) (.node (nU 0) (.node (nU 0)
  (.node (nU 0) (lA (nU 0) 15) (fA 16)) (.node (nU 0) (lA (nU 0) 15) (fA 16))) (.node (nU 0) (.node (nU 0) (lA (nU 0) 15) (fA 16)) (.node (nU 0) (lA (nU 0) 15) (fA 16)))) (.node (nU
  0) (.node (nU 0) (.node (nU 0) (lA (nU 0) 15) (fA 16)) (.node (nU 0) (lA (nU 0) 15) (fA 16))) (.node (nU 0) (.node (nU 0) (lA (nU 0) 15) (fA 16)) (.node (nU 0) (lA (nU 0) 15) (fA
  16))))) (.node (nU 0) (.node (nU 0) (.node (nU 0) (.node (nU 0) (lA (nU 0) 15) (fA 16)) (.node (nU 0) (lA (nU 0) 15) (fA 16))) (.node (nU 0) (.node (nU 0) (lA (nU 0) 15) (fA 16))
  (.node (nU 0) (lA (nU 0) 15) (fA 16)))) (.node (nU 0) (.node (nU 0) (.node (nU 0) (lA (nU 0) 15) (fA 16)) (.node (nU 0) (lA (nU 0) 15) (fA 16))) (.node (nU 0) (.node (nU 0) (lA (nU
  0) 15) (fA 16)) (lA (nU 0) 16))))))) (.node (nU 1088) (.node (nU 0) (.node (nU 0) (.node (nU 0) (.node (nU 0) (.node (nU 0) (.node (nU 3) (lA (nU 0) 15) (fA 16)) (.node (nU 0) (lA
  (nU 0) 15) (fA 16))) (.node (nU 0) (.node (nU 0) (lA (nU 0) 15) (fA 16)) (.node (nU 0) (lA (nU 0) 15) (fA 16)))) (.node (nU 0) (.node (nU 0) (.node (nU 0) (lA (nU 0) 15) (fA 16))
  (.node (nU 0) (lA (nU 0) 15) (fA 16))) (.node (nU 0) (.node (nU 0) (lA (nU 0) 15) (fA 16)) (.node (nU 0) (lA (nU 0) 15) (fA 16))))) (.node (nU 0) (.node (nU 0) (.node (nU 0) (.node
  (nU 5495893775785918464) (lA (nU 0) 15) (fA 16)) (.node (nU 0) (lA (nU 0) 15) (fA 16))) (.node (nU 0) (.node (nU 0) (lA (nU 0) 15) (fA 16)) (.node (nU 0) (lA (nU 0) 15) (fA 16))))
  (.node (nU 0) (.node (nU 0) (.node (nU 0) (lA (nU 0) 15) (fA 16)) (.node (nU 0) (lA (nU 0) 15) (fA 16))) (.node (nU 0) (.node (nU 0) (lA (nU 0) 15) (fA 16)) (.node (nU 0) (lA (nU
  0) 15) (fA 16)))))) (.node (nU 0) (.node (nU 0) (.node (nU 0) (.node (nU 0) (.node (nU 0) (lA (nU 0) 15) (fA 16)) (.node (nU 0) (lA (nU 0) 15) (fA 16))) (.node (nU 0) (.node (nU 0)
  (lA (nU 0) 15) (fA 16)) (.node (nU 0) (lA (nU 0) 15) (fA 16)))) (.node (nU 0) (.node (nU 0) (.node (nU 0) (lA (nU 0) 15) (fA 16)) (.node (nU 0) (lA (nU 0) 15) (fA 16))) (.node (nU
  0) (.node (nU 0) (lA (nU 0) 15) (fA 16)) (.node (nU 0) (lA (nU 0) 15) (fA 16))))) (.node (nU 0) (.node (nU 0) (.node (nU 0) (.node (nU 1088) (lA (nU 0) 15) (fA 16)) (.node (nU 0)
  (lA (nU 0) 15) (fA 16))) (.node (nU 0) (.node (nU 0) (lA (nU 0) 15) (fA 16)) (.node (nU 0) (lA (nU 0) 15) (fA 16)))) (.node (nU 0) (.node (nU 0) (.node (nU 0) (lA (nU 0) 15) (fA
  16)) (.node (nU 0) (lA (nU 0) 15) (fA 16))) (.node (nU 0) (.node (nU 0) (lA (nU 0) 15) (fA 16)) (lA (nU 0) 16)))))) (.node (nU 0) (.node (nU 0) (.node (nU 0) (.node (nU 0) (.node
  (nU 0) (.node (nU 0) (lA (nU 0) 15) (fA 16)) (.node (nU 0) (lA (nU 0) 15) (fA 16))) (.node (nU 0) (.node (nU 0) (lA (nU 0) 15) (fA 16)) (.node (nU 0) (lA (nU 0) 15) (fA 16))))
  (.node (nU 0) (.node (nU 0) (.node (nU 0) (lA (nU 0) 15) (fA 16)) (.node (nU 0) (lA (nU 0) 15) (fA 16))) (.node (nU 0) (.node (nU 0) (lA (nU 0) 15) (fA 16)) (.node (nU 0) (lA (nU
  0) 15) (fA 16))))) (.node (nU 0) (.node (nU 0) (.node (nU 0) (.node (nU 0) (lA (nU 0) 15) (fA 16)) (.node (nU 0) (lA (nU 0) 15) (fA 16))) (.node (nU 0) (.node (nU 0) (lA (nU 0) 15)
  (fA 16)) (.node (nU 0) (lA (nU 0) 15) (fA 16)))) (.node (nU 0) (.node (nU 0) (.node (nU 0) (lA (nU 0) 15) (fA 16)) (.node (nU 0) (lA (nU 0) 15) (fA 16))) (.node (nU 0) (.node (nU
  0) (lA (nU 0) 15) (fA 16)) (lA (nU 0) 16))))) (.node (nU 0) (.node (nU 0) (.node (nU 0) (.node (nU 0) (.node (nU 0) (lA (nU 0) 15) (fA 16)) (.node (nU 0) (lA (nU 0) 15) (fA 16)))
  (.node (nU 0) (.node (nU 0) (lA (nU 0) 15) (fA 16)) (.node (nU 0) (lA (nU 0) 15) (fA 16)))) (.node (nU 0) (.node (nU 0) (.node (nU 0) (lA (nU 0) 15) (fA 16)) (.node (nU 0) (lA (nU
  0) 15) (fA 16))) (.node (nU 0) (.node (nU 0) (lA (nU 0) 15) (fA 16)) (.node (nU 0) (lA (nU 0) 15) (fA 16))))) (.node (nU 0) (.node (nU 0) (.node (nU 0) (.node (nU 0) (lA (nU 0) 15)
  (fA 16)) (.node (nU 0) (lA (nU 0) 15) (fA 16))) (.node (nU 0) (.node (nU 0) (lA (nU 0) 15) (fA 16)) (.node (nU 0) (lA (nU 0) 15) (fA 16)))) (.node (nU 0) (.node (nU 0) (.node (nU
  0) (lA (nU 0) 15) (fA 16)) (.node (nU 0) (lA (nU 0) 15) (fA 16))) (.node (nU 0) (.node (nU 0) (lA (nU 0) 15) (fA 16)) (lA (nU 0) 16)))))))) false false) 10)) (fD 12)) (fD 13)))
  (.node .dead (fD 14) (.node .dead (.node .dead (.node .dead (lD (.cells 46 1 5 (.node (nU 1280) (.node (nU 1664) (lA (nU 1856) 21) (fA 22)) (.node (nU 1472) (lA (nU 1088) 21) (fA
  22))) false false) 10) (fD 11)) (fD 12)) (fD 13)))) (fD 16)) (fD 17)) (.node .dead (.node .dead (.node .dead (fD 15) (.node .dead (fD 14) (.node .dead (.node .dead (.node .dead (lD
  (.cells 49 10 10 (.node (nI 6) (.node (nI 0) (.node (nU 0) (lA (nU 0) 20) (fA 21)) (.node (nI 0) (lA .nilsl 20) (fA 21))) (.node (nI 0) (.node (nU 0) (lA (nI 0) 20) (fA 21)) (lA
  (.str (bs [])) 21))) true false) 10) (fD 11)) (fD 12)) (fD 13)))) (fD 16)) (fD 17))))))) (.node .dead (.node .dead (.node .dead (.node .dead (.node .dead (.node .dead (fD 17) (lD
  (.cells 114 7 7 (.node (.sl 967 0 0 384 (.u 967 0)) (.node (.sl 965 0 0 384 (.u 965 0)) (lA (nU 762) 21) (lA (nU 0) 21)) (.node (.map 191) (lA (nU 0) 21) (lA (nU 0) 21))) true
  false) 16)) (fD 18)) (fD 19)) (.node .dead (.node .dead (.node .dead (fD 17) (.node .dead (fD 16) (.node .dead (fD 15) (lD (.cells 31 10 10 (.node (.ptr 192 0) (.node (nI 1) (.node
  (nI 764) (lA (.ptr 9015 0) 20) (fA 21)) (.node (.bool true) (lA (.fn (.func 77) [] [(.ptr 9804 0), (.ptr 9026 0)]) 20) (fA 21))) (.node (nI 4) (.node .nilsl (lA (.ptr 9017 0) 20)
  (fA 21)) (lA .nilsl 21))) true false) 14)))) (.node .dead (fD 17) (.node .dead (fD 16) (.node .dead (.node .dead (fD 14) (.node .dead (.node .dead (.node .dead (lD (.cells 298 2 6
  (.node (nI 0) (.node (nU 0) (lA (nU 1) 21) (lA (nU 0) 21)) (.node (nI 3) (lA (nI 0) 21) (fA 22))) true false) 10) (fD 11)) (fD 12)) (fD 13))) (fD 15))))) (.node .dead (fD 18)
  (.node .dead (.node .dead (.node .dead (fD 15) (.node .dead (fD 14) (.node .dead (.node .dead (.node .dead (lD (.cells 204 2 2 (.node .nilif (lA (nI 0) 22) (fA 23)) true false) 10)
  (fD 11)) (fD 12)) (fD 13)))) (fD 16)) (fD 17))))) (.node .dead (.node .dead (.node .dead (fD 18) (lD o7 17)) (.node .dead (lD (.cells 43 1 8 (.node (nU 0) (.node (nU 0) (.node (nU
  0) (lA (nU 0) 20) (fA 21)) (lA (nU 0) 21)) (.node (nU 0) (lA (nU 0) 21) (lA (nU 0) 21))) false false) 17) (fD 18))) (.node .dead (.node .dead (.node .dead (fD 17) (.node .dead
  (.node .dead (.node .dead (fD 14) (.node .dead (fD 13) (.node .dead (.node .dead (lD (.cells 174 1 1 (lA (.ptr 9803 0) 23) true false) 10) (fD 11)) (fD 12)))) (fD 15)) (fD 16)))
  (.node .dead (fD 17) (.node .dead (fD 16) (.node .dead (.node .dead (fD 14) (.node .dead (.node .dead (.node .dead (lD (.cells 348 1 1 (lA .nilsl 23) true false) 10) (fD 11)) (fD
  12)) (fD 13))) (fD 15))))) (.node (.map [] 0) (fD 18) (.node .dead (.node .dead (.node .dead (fD 15) (.node .dead (fD 14) (.node .dead (.node .dead (.node .dead (lD (.cells 106 12
  12 (.node (nI 2) (.node (nI 0) (.node (nI 0) (lA (.str (bs [])) 20) (lA (nI 0) 20)) (.node (nU 0) (lA (nI 0) 20) (fA 21))) (.node (nI 0) (.node (nU 0) (lA (nU 0) 20) (fA 21))
  (.node (nI 0) (lA .nilsl 20) (fA 21)))) true false) 10) (fD 11)) (fD 12)) (fD 13)))) (fD 16)) (fD 17)))))) (.node o1 (.node .dead (.node .dead (.node .dead (.node .dead (fD 17)
  (.node .dead (.node .dead (fD 15) (.node .dead (fD 14) (.node .dead (.node .dead (.node .dead (lD (.cells 22 1 1 (lA (.ptr 968 0) 23) true false) 10) (fD 11)) (fD 12)) (fD 13))))
  (fD 16))) (fD 18)) (.node .dead (lD (.cells 43 1 8 (.node (nU 0) (.node (nU 0) (.node (nU 0) (lA (nU 0) 20) (fA 21)) (lA (nU 0) 21)) (.node (nU 0) (lA (nU 0) 21) (lA (nU 0) 21)))
  false false) 17) (fD 18))) (.node .dead (.node .dead (.node .dead (fD 17) (.node .dead (.node .dead (.node .dead (fD 14) (.node .dead (fD 13) (.node .dead (.node .dead (lD o19 10)
  (fD 11)) (fD 12)))) (fD 15)) (fD 16))) (.node .dead (fD 17) (.node .dead (fD 16) (.node .dead (.node .dead (fD 14) (.node .dead (.node .dead (.node .dead (lD (.cells 294 7 7 (.node
  (nI 3072) (.node (.sl 8936 0 0 3 (.k 3)) (lA (.ptr 8941 0) 21) (lA (.ptr 8943 0) 21)) (.node (.ptr 8940 0) (lA (.ptr 8942 0) 21) (lA (.map 8937) 21))) true false) 10) (fD 11)) (fD
  12)) (fD 13))) (fD 15))))) (fD 19))) (.node .dead (.node .dead (.node .dead (.node .dead (fD 17) (.node .dead (.node .dead (fD 15) (.node .dead (fD 14) (.node .dead (.node .dead
  (.node .dead (lD (.cells 235 12 12 (.node (.ptr 192 0) (.node (.sl 9802 378 0 6 (.u 9802 378)) (.node (.fn (.func 118) [(.ptr 9030 0)] []) (lA .nilsl 20) (lA (nI 0) 20)) (.node (nI
  0) (lA .nilsl 20) (fA 21))) (.node (.sl 12829 0 0 378 (.u 12829 0)) (.node (.bool false) (lA .nilsl 20) (fA 21)) (.node .nilsl (lA (nI 0) 20) (fA 21)))) true false) 10) (fD 11))
  (fD 12)) (fD 13)))) (fD 16))) (fD 18)) (.node .dead (fD 18) (.node .dead (.node .dead (.node .dead (fD 15) (.node .dead (fD 14) (.node .dead (.node .dead (.node .dead (lD o45 10)
  (fD 11)) (fD 12)) (fD 13)))) (fD 16)) (fD 17)))) (.node .dead (.node .dead (.node .dead (fD 17) (.node .dead (.node .dead (.node .dead (fD 14) (.node .dead (fD 13) (.node .dead
  (.node .dead (lD o1 10) (fD 11)) (fD 12)))) (fD 15)) (fD 16))) (.node .dead (fD 17) (.node .dead (fD 16) (.node .dead (.node .dead (fD 14) (.node .dead (.node .dead (.node .dead
  (lD (.cells 348 1 1 (lA .nilsl 23) true false) 10) (fD 11)) (fD 12)) (fD 13))) (fD 15))))) (.node .dead (.node .dead (.node .dead (.node .dead (.node .dead (fD 14) (.node .dead
  (.node .dead (.node .dead (fD 11) (lD (.cells 39 13 13 (.node (nI 763) (.node (nI 7) (.node (nI 0) (lA (nI 0) 20) (lA (nI 0) 20)) (.node (nI 0) (lA .nilsl 20) (fA 21))) (.node (nI
  4) (.node (nI 0) (lA (.str (bs [])) 20) (lA (nI 0) 20)) (.node (.bool false) (lA (.bool false) 20) (fA 21)))) true false) 10)) (fD 12)) (fD 13))) (fD 15)) (fD 16)) (fD 17)) (fD
  18))))))), 12831⟩,
  [.code (codeAt Tryz.f58 [1, 0, 1, 0, 0, 0, 1]), .code (codeAt Tryz.f58 [1, 0, 1, 0, 0, 1]), .lp (codeAt Tryz.f58 [1, 0, 1, 0, 0]), .blk 0, .code (codeAt
  Tryz.f58 [1, 1])]⟩
noncomputable def o53 : Fr :=
  ⟨122, 8, [], .normal, none, .run, (.node (.ptr 9030 0) (.node undefV (lU (.ptr 9030 0) 21) (lU (.ptr 9030 2) 21)) (.node .nilsl (lU (.ptr 9030 0) 21) (lU (.sl 12877 0 0 384 (.u
  12877 0)) 21))), [.reg (opsAt Tryz.f122 [1, 0]) ((opsAt Tryz.f122 [1, 0]).toList.drop 4), .code (codeAt Tryz.f122 [1, 1])]⟩
noncomputable def o60 : Fr :=
  ⟨118, 57, [], .normal, none, .run, (.node (.ptr 9030 0) (.node undefV (.node (nI 0) (.node (.ptr 9030 0) (.node (.ptr 9802 383) (lU (.sl 12877 0 0 384 (.u 12877 0)) 18) (fU 19))
  (.node (.ptr 9030 0) (lU (.ptr 9030 0) 18) (fU 19))) (.node (.ptr 9030 0) (.node (nI 0) (lU (.sl 9802 383 0 1 (.u 9802 383)) 18) (fU 19)) (.node (.ptr 9030 2) (lU (.ptr 9030 1) 18)
  (fU 19)))) (.node (nI 0) (.node (.ptr 9030 0) (.node (.tup [(nU 0), (nI 0)]) (lU (.ptr 9030 0) 18) (lU (.ptr 9030 0) 18)) (.node (.ptr 9030 0) (lU (.ptr 9030 0) 18) (fU 19)))
  (.node (.ptr 9030 1) (.node (.bool false) (lU (.ptr 9030 0) 18) (fU 19)) (.node (nU 0) (lU (nI 0) 18) (fU 19))))) (.node (.bool false) (.node (nU 0) (.node (.ptr 9030 0) (.node (nU
  3064) (lU (.ptr 9030 0) 18) (lU (.ptr 9030 0) 18)) (.node (.ptr 9030 0) (lU (.ptr 9030 1) 18) (fU 19))) (.node (.ptr 9030 0) (.node (nI 0) (lU (.sl 9802 383 1 0 (.u 9802 384)) 18)
  (fU 19)) (.node (.sl 12869 0 0 383 (.u 12869 0)) (lU (.sl 9802 383 1 0 (.u 9802 384)) 18) (fU 19)))) (.node (.tup [(nU 0), (nI 0)]) (.node (.ptr 192 0) (.node (nU 0) (lU (.ptr 9030
  1) 18) (fU 19)) (.node (.ptr 9030 0) (lU (.ptr 9030 0) 18) (fU 19))) (.node (.sl 9802 383 0 1 (.u 9802 383)) (.node undefV (lU (.ptr 9030 2) 18) (fU 19)) (.node (.sl 12876 0 0 1
  (.k 1)) (lU (.bool false) 18) (fU 19)))))), [.reg (opsAt Tryz.f118 [1, 1, 1, 1, 1, 0]) ((opsAt Tryz.f118 [1, 1, 1, 1, 1, 0]).toList.drop 2), .code (codeAt Tryz.f118 [1, 1, 1, 1, 1,
  1])]⟩
noncomputable def o56 : Fr :=
  ⟨73, 34, [], .normal, none, .run, (.node (.ptr 9030 0) (.node undefV (.node (nI 0) (.node (.ptr 9030 0) (lU (.ptr 9030 0) 19) (fU 20)) (lU (.bool true) 20)) (.node (.bool true)
  (.node (.ptr 9030 4) (lU (.ptr 9030 3) 19) (fU 20)) (lU (.ptr 9030 0) 20))) (.node (.bool false) (.node (.ptr 9030 0) (.node (.ptr 9030 0) (lU (.ptr 9030 0) 19) (fU 20)) (fU 21))
  (.node (.bool false) (.node (.bool false) (lU (.fn (.func 118) [(.ptr 9030 0)] []) 19) (fU 20)) (lU (.ptr 9030 0) 20)))), [.reg (opsAt Tryz.f73 [1, 1, 0, 1, 0]) ((opsAt Tryz.f73
  [1, 1, 0, 1, 0]).toList.drop 6), .code (codeAt Tryz.f73 [1, 1, 1])]⟩
noncomputable def o55 : Fr :=
  ⟨126, 54, [], .normal, none, .run, (.node (.ptr 9803 0) (.node undefV (.node (nI 0) (fU 21) (lU (.ptr 9030 0) 20)) (.node undefV (lU (.ptr 9803 0) 20) (fU 21))) (.node (.bool
  false) (.node undefV (lU (.ptr 9803 0) 20) (fU 21)) (.node undefV (lU (.ptr 9803 1) 20) (fU 21)))), [.reg (opsAt Tryz.f126 [1, 0]) ((opsAt Tryz.f126 [1, 0]).toList.drop 4), .code
  (codeAt Tryz.f126 [1, 1])]⟩
noncomputable def o58 : Fr :=
  ⟨78, 48, [], .normal, none, .run, (.node (.ptr 9803 0) (.node undefV (.node (nI 0) (.node (.ptr 9803 0) (.node (.ptr 9803 0) (lU (.ptr 9803 3) 18) (fU 19)) (lU (.ptr 9803 7) 19))
  (.node (.bool false) (lU (.bool false) 19) (lU (.ptr 9803 0) 19))) (.node (.bool false) (.node (.ptr 9803 3) (lU (.ptr 9015 0) 19) (lU (.bool true) 19)) (.node (.bool false) (lU
  (.ptr 9803 0) 19) (lU (.ptr 9803 0) 19)))) (.node (.bool false) (.node (.ptr 9803 0) (.node (.ptr 9803 0) (.node (.ptr 9803 0) (lU (.fn (.func 126) [(.ptr 9803 0)] []) 18) (fU 19))
  (lU (.bool false) 19)) (.node (.bool false) (lU (.bool false) 19) (lU (.ptr 9803 0) 19))) (.node (.bool false) (.node (.fn (.func 126) [(.ptr 9803 0)] []) (lU (.ptr 192 0) 19) (fU
  20)) (.node (.ptr 9803 0) (lU (.ptr 9803 0) 19) (lU (.ptr 9803 0) 19))))), [.reg (opsAt Tryz.f78 [1, 1, 0, 1, 0]) ((opsAt Tryz.f78 [1, 1, 0, 1, 0]).toList.drop 6), .code (codeAt
  Tryz.f78 [1, 1, 1])]⟩
noncomputable def o49 : Fr :=
  ⟨77, 29, [], .normal, none, .run, (.node (.ptr 9804 0) (.node (.ptr 9026 0) (.node (nI 0) (lU (.ptr 9803 0) 20) (fU 21)) (fU 22)) (lU (.bool false) 22)), [.reg (opsAt Tryz.f77 [1,
  0]) ((opsAt Tryz.f77 [1, 0]).toList.drop 1), .code (codeAt Tryz.f77 [1, 1])]⟩
noncomputable def o57 : Fr :=
  ⟨39, 33, [], .normal, none, .run, (.node (.ptr 968 0) (.node (.agg [(nI 7), (nI 0), (nI 0), (nU 0), (nU 0), (nI 0), (.str (bs [])), (nU 0), (nI 0), .nilsl]) (.node undefV (.node
  (.ptr 968 0) (lU (.ptr 968 2) 19) (lU (.ptr 968 0) 19)) (lU (.bool true) 20)) (.node undefV (.node (.ptr 968 2) (lU (.bool false) 19) (lU (.fn (.func 77) [] [(.ptr 9804 0), (.ptr
  9026 0)]) 19)) (.node (.ptr 968 0) (lU (.ptr 12874 0) 19) (fU 20)))) (.node (.ptr 12874 0) (.node (.ptr 12875 0) (.node (.ptr 968 0) (lU (nI 4) 19) (lU (.ptr 968 9) 19)) (.node
  (.bool true) (lU (.ptr 12874 0) 19) (fU 20))) (.node (nI 0) (.node (nI 4) (lU (.bool false) 19) (fU 20)) (.node (.ptr 968 0) (lU (.ptr 968 0) 19) (fU 20))))), [.reg (opsAt Tryz.f39
  [1, 1, 0]) ((opsAt Tryz.f39 [1, 1, 0]).toList.drop 6), .code (codeAt Tryz.f39 [1, 1, 1])]⟩
noncomputable def o61 : Fr :=
  ⟨4, 58, [], .normal, none, .run, (.node (.ptr 968 0) (.node (.agg [(nI 7), (nI 0), (nI 0), (nU 0), (nU 0), (nI 0), (.str (bs [])), (nU 0), (nI 0), .nilsl]) (.node (.ptr 12871 0)
  (.node (.bool true) (.node (.ptr 968 0) (lU (.ptr 968 0) 18) (fU 19)) (.node (nI 7) (lU (.agg [(nI 7), (nI 0), (nI 0), (nU 0), (nU 0), (nI 0), (.str (bs [])), (nU 0), (nI 0),
  .nilsl]) 18) (fU 19))) (.node (.bool false) (.node undefV (lU (nI 7) 18) (fU 19)) (lU (.bool true) 19))) (.node (nI 0) (.node undefV (.node (.bool false) (lU (nI 769) 18) (fU 19))
  (lU (.fn (.func 39) [] []) 19)) (.node (.ptr 968 0) (.node (.map 12873) (lU (.fn (.func 39) [] []) 18) (fU 19)) (fU 20)))) (.node undefV (.node (.ptr 12872 0) (.node (.ptr 12874 0)
  (.node (.ptr 192 0) (lU (.ptr 968 3) 18) (fU 19)) (lU (.tup [(.fn (.func 39) [] []), (.bool true)]) 19)) (.node (.bool false) (.node (.tup [(.fn (.func 39) [] []), (.bool true)])
  (lU (.agg [(nI 769), (nI 7), (nI 0), (nI 0), (nI 0), (nI 0), (.bool false), (nI 0), (.str (bs [])), .nilsl, (.bool false), (nI 0), (nI 0)]) 18) (fU 19)) (lU (.bool false) 19)))
  (.node (.fn (.func 39) [] []) (.node (.ptr 968 0) (.node (.bool false) (lU (.ptr 12871 0) 18) (fU 19)) (lU (.bool true) 19)) (.node (.ptr 968 0) (.node (.ptr 12871 0) (lU (.ptr 968
  0) 18) (fU 19)) (lU (.ptr 968 0) 19))))), [.reg (opsAt Tryz.f4 [1, 1, 1, 1, 1, 0, 0]) ((opsAt Tryz.f4 [1, 1, 1, 1, 1, 0, 0]).toList.drop 3), .code (codeAt Tryz.f4 [1, 1, 1, 1, 1,
  0, 1]), .code (codeAt Tryz.f4 [1, 1, 1, 1, 1, 1])]⟩
noncomputable def o59 : Fr :=
  ⟨58, 27, [], .normal, none, .run, (.node (.ptr 968 0) (.node (nI 3136) (.node undefV (.node (.ptr 12870 0) (lU (.ptr 968 0) 19) (lU (.ptr 12870 10) 19)) (.node (.bool true) (lU (nI
  0) 19) (fU 20))) (.node (.bool false) (.node (nI 383) (lU (.tup [(.agg [(nI 768), (nI 7), (nI 4), (nI 0), (nI 0), (nI 0), (.bool false), (nI 0), (.str (bs [])), .nilsl, (.bool
  false), (nI 0), (nI 0)]), (nI 0)]) 19) (fU 20)) (.node (nI 383) (lU (.bool false) 19) (fU 20)))) (.node undefV (.node (.ptr 9806 0) (.node (nI 0) (lU (.agg [(nI 7), (nI 0), (nI 0),
  (nU 0), (nU 0), (nI 0), (.str (bs [])), (nU 0), (nI 0), .nilsl]) 19) (lU (.bool false) 19)) (.node (nI 382) (lU (nI 0) 19) (fU 20))) (.node (nI 383) (.node (nI 3136) (lU (.agg [(nI
  768), (nI 7), (nI 4), (nI 0), (nI 0), (nI 0), (.bool false), (nI 0), (.str (bs [])), .nilsl, (.bool false), (nI 0), (nI 0)]) 19) (fU 20)) (lU (.tup [(.agg [(nI 768), (nI 7), (nI
  4), (nI 0), (nI 0), (nI 0), (.bool false), (nI 0), (.str (bs [])), .nilsl, (.bool false), (nI 0), (nI 0)]), (nI 0)]) 20)))), [.reg (opsAt Tryz.f58 [1, 0, 1, 0, 0, 1, 0, 0, 0])
  ((opsAt Tryz.f58 [1, 0, 1, 0, 0, 1, 0, 0, 0]).toList.drop 2), .code (codeAt Tryz.f58 [1, 0, 1, 0, 0, 1, 0, 0, 1]), .blk 1, .code (codeAt Tryz.f58 [1, 0, 1, 0, 0, 1, 1]), .lp
  (codeAt Tryz.f58 [1, 0, 1, 0, 0]), .blk 0, .code (codeAt Tryz.f58 [1, 1])]⟩
noncomputable def o52 : Ob :=
  (.cells 31 10 10 (.node (.ptr 192 0) (.node (nI 1) (.node (nI 769) (lA (.ptr 9015 0) 20) (fA 21)) (.node (.bool true) (lA (.fn (.func 77) [] [(.ptr 9804 0), (.ptr 9026 0)]) 20) (fA
  21))) (.node (nI 4) (.node .nilsl (lA (.ptr 9017 0) 20) (fA 21)) (lA .nilsl 21))) true false)
noncomputable def o50 : Ob :=
  (.cells 39 13 13 (.node (nI 769) (.node (nI 7) (.node (nI 0) (lA (nI 0) 20) (lA (nI 0) 20)) (.node (nI 0) (lA .nilsl 20) (fA 21))) (.node (nI 0) (.node (nI 0) (lA (.str (bs []))
  20) (lA (nI 0) 20)) (.node (.bool false) (lA (.bool false) 20) (fA 21)))) true false)
noncomputable def o51 : Ob :=
  (.cells 39 13 13 (.node (nI 768) (.node (nI 7) (.node (nI 0) (lA (nI 0) 20) (lA (nI 0) 20)) (.node (nI 0) (lA .nilsl 20) (fA 21))) (.node (nI 4) (.node (nI 0) (lA (.str (bs []))
  20) (lA (nI 0) 20)) (.node (.bool false) (lA (.bool false) 20) (fA 21)))) true false)
noncomputable def o54 : Ob :=
  (.cells 235 12 12 (.node (.ptr 192 0) (.node (.sl 9802 383 1 0 (.u 9802 384)) (.node (.fn (.func 118) [(.ptr 9030 0)] []) (lA .nilsl 20) (lA (nI 0) 20)) (.node (nI 0) (lA .nilsl
  20) (fA 21))) (.node (.sl 12877 0 0 384 (.u 12877 0)) (.node (.bool false) (lA .nilsl 20) (fA 21)) (.node .nilsl (lA (nI 0) 20) (fA 21)))) true false)
/-- where the run stands at the end of part 29 -/
noncomputable def s29 : St :=
  ⟨⟨56, 15, [], .normal, none,
  [⟨170, 20, [], .normal, none, .run, (.node (.sl 12877 0 0 384 (.u 12877 0)) (.node undefV (.node (.sl 13222 0 0 920 (.u 13222 0)) (.node (.sl 12877 0
  0 384 (.u 12877 0)) (lU (.sl 13219 0 0 912 (.u 13219 0)) 19) (fU 20)) (lU (.ptr 12877 115) 20)) (.node (nU 0) (.node (nI 115) (lU (.sl 13222 0 0 920 (.u 13222 0)) 19) (fU 20)) (lU
  (nU 0) 20))) (.node .nilsl (.node undefV (.node (nI 384) (lU (.sl 13221 0 0 8 (.k 8)) 19) (fU 20)) (lU (nU 0) 20)) (.node (.ptr 13221 0) (.node (.bool true) (lU (nI 115) 19) (fU
  20)) (lU (.agg [(nB 0), (nB 0), (nB 0), (nB 0), (nB 0), (nB 0), (nB 0), (nB 0)]) 20)))), [.reg (opsAt Tryz.f170 [1, 1, 0, 1, 0, 0, 1, 1, 0, 0, 1, 0]) ((opsAt Tryz.f170 [1, 1, 0, 1,
  0, 0, 1, 1, 0, 0, 1, 0]).toList.drop 1), .code (codeAt Tryz.f170 [1, 1, 0, 1, 0, 0, 1, 1, 0, 0, 1, 1]), .blk 1, .code (codeAt Tryz.f170 [1, 1, 0, 1, 0, 0, 1, 1, 1]), .lp (codeAt
  Tryz.f170 [1, 1, 0, 1, 0, 0]), .blk 0, .code (codeAt Tryz.f170 [1, 1, 1])]⟩,
    o53,
    o60,
    o56,
    o55,
    o58,
    o49,
    o57,
    o61,
    o59,
    o48,
    o46,
   
  o6]⟩,
  .run,
  (.node (nU 0) (fU 23) (lU (.ptr 13223 0) 22)),
  ⟨(.node (.cells 31 10 10 (.node .nil (.node (nI 0) (.node (nI 0) (lA .nil 20) (fA 21)) (.node (.bool false) (lA
  .nilfn 20) (fA 21))) (.node (nI 0) (.node .nilsl (lA .nil 20) (fA 21)) (lA .nilsl 21))) true false) (.node .dead (.node o1 (.node (.cells 5 1 64 (fB 24) true false) (.node .dead
  (.node .dead (.node .dead (fD 17) (lD (.map [] 0) 16)) (fD 18)) (.node .dead (fD 18) (.node .dead (fD 17) (.node .dead (fD 16) (.node .dead (.node .dead (fD 14) (.node .dead (.node
  .dead (.node .dead (lD (.cells 348 1 1 (lA (.sl 8989 0 0 4 (.u 8989 0)) 23) true false) 10) (fD 11)) (fD 12)) (fD 13))) (fD 15)))))) (.node .dead (.node .dead (.node .dead (fD 17)
  (.node .dead (.node .dead (.node .dead (fD 14) (.node .dead (.node .dead (.node .dead (fD 11) (lD (.cells 49 10 10 (.node (nI 7) (.node (nI 0) (.node (nU 0) (lA (nU 0) 20) (fA 21))
  (.node (nI 0) (lA .nilsl 20) (fA 21))) (.node (nI 0) (.node (nU 0) (lA (nI 0) 20) (fA 21)) (lA (.str (bs [])) 21))) true false) 10)) (fD 12)) (fD 13))) (fD 15)) (.node .dead (fD
  15) (lD o15 14)))) (.node .dead (.node .dead (fD 16) (.node .dead (fD 15) (.node .dead (fD 14) (.node .dead (.node .dead (.node .dead (fD 11) (lD (.cells 147 8 8 (.node (nB 0)
  (.node (nB 0) (.node (nB 0) (lA (nB 0) 20) (fA 21)) (lA (nB 0) 21)) (.node (nB 0) (lA (nB 0) 21) (lA (nB 0) 21))) true false) 10)) (fD 12)) (fD 13))))) (fD 17))) (.node .dead (fD
  18) (.node .dead (.node .dead (.node .dead (fD 15) (.node .dead (fD 14) (.node .dead (.node .dead (.node .dead (lD (.cells 211 3 3 (.node (.ptr 192 0) (lA (.ptr 8938 0) 22) (lA
  (.ptr 9014 0) 22)) true false) 10) (fD 11)) (fD 12)) (fD 13)))) (fD 16)) (fD 17))))) (.node .dead (.node .dead (.node .dead (fD 18) (lD (.cells 99 3 3 (.node .nilsl (lA .nilsl 22)
  (lA (.bool false) 22)) false false) 17)) (fD 19)) (.node .dead (.node .dead (.node .dead (fD 17) (.node .dead (.node .dead (.node .dead (fD 14) (.node .dead (.node .dead (.node
  .dead (fD 11) (lD (.cells 49 10 10 (.node (nI 7) (.node (nI 0) (.node (nU 0) (lA (nU 0) 20) (fA 21)) (.node (nI 0) (lA .nilsl 20) (fA 21))) (.node (nI 0) (.node (nU 0) (lA (nI 0)
  20) (fA 21)) (lA (.str (bs [])) 21))) true false) 10)) (fD 12)) (.node .dead (.node .dead (lD (.cells 242 9 9 (.node (.ptr 9015 0) (.node (.ptr 9030 0) (.node (.fn (.func 126)
  [(.ptr 9803 0)] []) (lA (.bool false) 20) (fA 21)) (lA .nilsl 21)) (.node .nil (.node .nilsl (lA (nI 0) 20) (fA 21)) (lA .nilsl 21))) true false) 10) (fD 11)) (fD 12)))) (fD 15))
  (fD 16))) (fD 18)) (.node (.cells 5 1 64 (fB 24) true false) (fD 18) (.node .dead (.node .dead (.node .dead (fD 15) (.node .dead (fD 14) (.node .dead (.node .dead (.node .dead (lD
  o44 10) (fD 11)) (fD 12)) (fD 13)))) (fD 16)) (fD 17)))))) (.node .dead (.node .dead (.node .dead (lD (.cells 5 1 64 (fB 24) true false) 18) (.node .dead (.node .dead (fD 17)
  (.node .dead (.node .dead (fD 15) (.node .dead (fD 14) (lD (.cells 106 12 12 (.node (nI 1) (.node (nI 0) (.node (nI 0) (lA (.str (bs [])) 20) (lA (nI 0) 20)) (.node (nU 0) (lA (nI
  0) 20) (fA 21))) (.node (nI 0) (.node (nU 0) (lA (nU 0) 20) (fA 21)) (.node (nI 0) (lA .nilsl 20) (fA 21)))) true false) 13))) (fD 16))) (fD 18))) (.node .dead (.node .dead (.node
  .dead (fD 17) (.node .dead (.node .dead (.node .dead (fD 14) (.node .dead (.node .dead (.node .dead (fD 11) (lD (.map [⟨(nI 1), (.fn (.func 33) [] []), 0⟩, ⟨(nI 2), (.fn (.func 34)
  [] []), 1⟩, ⟨(nI 3), (.fn (.func 35) [] []), 2⟩, ⟨(nI 4), (.fn (.func 36) [] []), 3⟩, ⟨(nI 5), (.fn (.func 37) [] []), 4⟩, ⟨(nI 6), (.fn (.func 38) [] []), 5⟩, ⟨(nI 7), (.fn (.func
  39) [] []), 6⟩] 7) 10)) (fD 12)) (fD 13))) (fD 15)) (fD 16))) (.node .dead (fD 17) (.node .dead (fD 16) (.node .dead (.node .dead (fD 14) (.node .dead (.node .dead (.node .dead (lD
  (.map [⟨(nU 1088), (nI 2), 0⟩] 1) 10) (fD 11)) (fD 12)) (fD 13))) (fD 15))))) (.node .dead (fD 18) (.node .dead (.node .dead (.node .dead (fD 15) (.node .dead (fD 14) (.node .dead
  (.node .dead (.node .dead (lD (.cells 198 4 4 (.node (.ptr 9015 0) (.node (.sl 9016 0 0 1 (.k 1)) (lA (nI 0) 21) (fA 22)) (lA .nilsl 22)) true false) 10) (fD 11)) (fD 12)) (fD
  13)))) (fD 16)) (fD 17))))) (.node .dead (.node .dead (.node .dead (.node .dead (fD 17) (.node .dead (fD 16) (.node .dead (fD 15) (lD o15 14)))) (.node .dead (.node .dead (fD 16)
  (.node .dead (fD 15) (.node .dead (fD 14) (.node .dead (.node .dead (.node .dead (fD 11) (lD (.cells 147 8 8 (.node (nB 0) (.node (nB 0) (.node (nB 0) (lA (nB 0) 20) (fA 21)) (lA
  (nB 0) 21)) (.node (nB 0) (lA (nB 0) 21) (lA (nB 0) 21))) true false) 10)) (fD 12)) (fD 13))))) (fD 17))) (.node .dead (lD (.cells 31 10 10 (.node (.ptr 61 0) (.node (nI 1) (.node
  (nI 0) (lA .nil 20) (fA 21)) (.node (.bool false) (lA .nilfn 20) (fA 21))) (.node (nI 1) (.node .nilsl (lA .nil 20) (fA 21)) (lA .nilsl 21))) true false) 17) (.node .dead (.node
  .dead (.node .dead (fD 15) (.node .dead (fD 14) (.node .dead (.node .dead (.node .dead (lD (.map [] 0) 10) (fD 11)) (fD 12)) (fD 13)))) (fD 16)) (fD 17)))) (.node .dead (.node
  .dead (.node .dead (fD 17) (.node .dead (.node .dead (.node .dead (fD 14) (.node .dead (.node .dead (.node .dead (fD 11) (lD o15 10)) (fD 12)) (.node .dead (.node .dead (lD o47 10)
  (fD 11)) (fD 12)))) (fD 15)) (fD 16))) (.node .dead (fD 17) (.node .dead (fD 16) (.node .dead (.node .dead (fD 14) (.node .dead (.node .dead (.node .dead (lD (.cells 348 1 1 (lA
  .nilsl 23) true false) 10) (fD 11)) (fD 12)) (fD 13))) (fD 15))))) (.node (.cells 114 7 7 (.node (.sl 84 0 0 8 (.u 84 0)) (.node (.sl 82 0 0 8 (.u 82 0)) (lA (nU 0) 21) (lA (nU 0)
  21)) (.node (.map 60) (lA (nU 0) 21) (lA (nU 0) 21))) true false) (.node o1 (.node .dead (.node .dead (fD 15) (.node .dead (fD 14) (.node .dead (.node .dead (.node .dead (lD
  (.cells 46 1 5 (.node (nU 1280) (.node (nU 1664) (lA (nU 1856) 21) (fA 22)) (.node (nU 1472) (lA (nU 1088) 21) (fA 22))) false false) 10) (fD 11)) (fD 12)) (fD 13)))) (fD 16)) (fD
  17)) (.node .dead (.node .dead (.node .dead (fD 15) (.node .dead (fD 14) (.node .dead (.node .dead (.node .dead (lD (.cells 49 10 10 (.node (nI 6) (.node (nI 0) (.node (nU 0) (lA
  (nU 0) 20) (fA 21)) (.node (nI 0) (lA .nilsl 20) (fA 21))) (.node (nI 0) (.node (nU 0) (lA (nI 0) 20) (fA 21)) (lA (.str (bs [])) 21))) true false) 10) (fD 11)) (fD 12)) (fD 13))))
  (fD 16)) (fD 17))))))) (.node .dead (.node .dead (.node .dead (.node .dead (.node .dead (.node .dead (fD 17) (lD (.cells 114 7 7 (.node (.sl 967 0 0 384 (.u 967 0)) (.node (.sl 965
  0 0 384 (.u 965 0)) (lA (nU 768) 21) (lA (nU 0) 21)) (.node (.map 191) (lA (nU 0) 21) (lA (nU 0) 21))) true false) 16)) (fD 18)) (fD 19)) (.node .dead (.node .dead (.node .dead (fD
  17) (.node .dead (.node .dead (.node .dead (fD 14) (.node .dead (.node .dead (.node .dead (fD 11) (lD o1 10)) (fD 12)) (fD 13))) (fD 15)) (.node .dead (fD 15) (lD o52 14)))) (.node
  .dead (fD 17) (.node .dead (fD 16) (.node .dead (.node .dead (fD 14) (.node .dead (.node .dead (.node .dead (lD (.cells 298 2 6 (.node (nI 0) (.node (nU 0) (lA (nU 1) 21) (lA (nU
  0) 21)) (.node (nI 3) (lA (nI 0) 21) (fA 22))) true false) 10) (fD 11)) (fD 12)) (fD 13))) (fD 15))))) (.node .dead (fD 18) (.node .dead (.node .dead (.node .dead (fD 15) (.node
  .dead (fD 14) (.node .dead (.node .dead (.node .dead (lD (.cells 204 2 2 (.node .nilif (lA (nI 0) 22) (fA 23)) true false) 10) (fD 11)) (fD 12)) (fD 13)))) (fD 16)) (fD 17)))))
  (.node .dead (.node .dead (.node .dead (fD 18) (lD o7 17)) (.node .dead (lD (.cells 43 1 8 (.node (nU 0) (.node (nU 0) (.node (nU 0) (lA (nU 0) 20) (fA 21)) (lA (nU 0) 21)) (.node
  (nU 0) (lA (nU 0) 21) (lA (nU 0) 21))) false false) 17) (fD 18))) (.node .dead (.node .dead (.node .dead (fD 17) (.node .dead (.node .dead (.node .dead (fD 14) (.node .dead (.node
  .dead (.node .dead (fD 11) (lD (.cells 43 1 1 (lA (nU 0) 23) true false) 10)) (fD 12)) (.node .dead (.node .dead (lD (.cells 174 1 1 (lA (.ptr 9803 0) 23) true false) 10) (fD 11))
  (fD 12)))) (fD 15)) (fD 16))) (.node .dead (fD 17) (.node .dead (fD 16) (.node .dead (.node .dead (fD 14) (.node .dead (.node .dead (.node .dead (lD (.cells 348 1 1 (lA .nilsl 23)
  true false) 10) (fD 11)) (fD 12)) (fD 13))) (fD 15))))) (.node (.map [] 0) (fD 18) (.node .dead (.node .dead (.node .dead (fD 15) (.node .dead (fD 14) (.node .dead (.node .dead
  (.node .dead (lD (.cells 106 12 12 (.node (nI 2) (.node (nI 0) (.node (nI 0) (lA (.str (bs [])) 20) (lA (nI 0) 20)) (.node (nU 0) (lA (nI 0) 20) (fA 21))) (.node (nI 0) (.node (nU
  0) (lA (nU 0) 20) (fA 21)) (.node (nI 0) (lA .nilsl 20) (fA 21)))) true false) 10) (fD 11)) (fD 12)) (fD 13)))) (fD 16)) (fD 17)))))) (.node o1 (.node .dead (.node .dead (.node
  .dead (.node .dead (fD 17) (.node .dead (.node .dead (fD 15) (.node .dead (fD 14) (.node .dead (.node .dead (.node .dead (lD (.cells 22 1 1 (lA (.ptr 968 0) 23) true false) 10) (fD
  11)) (fD 12)) (fD 13)))) (fD 16))) (fD 18)) (.node .dead (lD (.cells 43 1 8 (.node (nU 0) (.node (nU 0) (.node (nU 0) (lA (nU 0) 20) (fA 21)) (lA (nU 0) 21)) (.node (nU 0) (lA (nU
  0) 21) (lA (nU 0) 21))) false false) 17) (fD 18))) (.node .dead (.node .dead (.node .dead (fD 17) (.node .dead (.node .dead (.node .dead (fD 14) (.node .dead (.node .dead (.node
  .dead (fD 11) (lD o50 10)) (fD 12)) (.node .dead (.node .dead (lD o19 10) (fD 11)) (fD 12)))) (fD 15)) (fD 16))) (.node .dead (fD 17) (.node .dead (fD 16) (.node .dead (.node .dead
  (fD 14) (.node .dead (.node .dead (.node .dead (lD (.cells 294 7 7 (.node (nI 3072) (.node (.sl 8936 0 0 3 (.k 3)) (lA (.ptr 8941 0) 21) (lA (.ptr 8943 0) 21)) (.node (.ptr 8940 0)
  (lA (.ptr 8942 0) 21) (lA (.map 8937) 21))) true false) 10) (fD 11)) (fD 12)) (fD 13))) (fD 15))))) (fD 19))) (.node .dead (.node .dead (.node .dead (.node .dead (fD 17) (.node
  .dead (.node .dead (.node .dead (fD 14) (.node .dead (.node .dead (.node .dead (fD 11) (lD o51 10)) (fD 12)) (fD 13))) (.node .dead (fD 14) (.node .dead (.node .dead (.node .dead
  (lD o54 10) (fD 11)) (fD 12)) (fD 13)))) (fD 16))) (.node .dead (.node .dead (fD 16) (.node .dead (fD 15) (.node .dead (fD 14) (.node .dead (.node .dead (.node .dead (fD 11) (lD
  (.cells 5 1 920 (.node (nB 70) (.node (nB 65) (.node (nB 84) (.node (nB 82) (.node (nB 0) (.node (nB 255) (.node (nB 0) (.node (nB 0) (.node (nB 0) (lA (nB 0) 14) (lA (nB 0) 14))
  (.node (nB 0) (lA (nB 0) 14) (lA (nB 0) 14))) (.node (nB 0) (.node (nB 0) (lA (nB 0) 14) (lA (nB 0) 14)) (.node (nB 0) (lA (nB 0) 14) (fA 15)))) (.node (nB 0) (.node (nB 0) (.node
  (nB 0) (lA (nB 0) 14) (lA (nB 0) 14)) (.node (nB 0) (lA (nB 0) 14) (fA 15))) (.node (nB 0) (.node (nB 0) (lA (nB 0) 14) (lA (nB 0) 14)) (.node (nB 0) (lA (nB 0) 14) (fA 15)))))
  (.node (nB 0) (.node (nB 0) (.node (nB 0) (.node (nB 0) (lA (nB 0) 14) (lA (nB 0) 14)) (.node (nB 0) (lA (nB 0) 14) (lA (nB 0) 14))) (.node (nB 0) (.node (nB 0) (lA (nB 0) 14) (lA
  (nB 0) 14)) (.node (nB 0) (lA (nB 0) 14) (fA 15)))) (.node (nB 0) (.node (nB 0) (.node (nB 0) (lA (nB 0) 14) (lA (nB 0) 14)) (.node (nB 0) (lA (nB 0) 14) (fA 15))) (.node (nB 0)
  (.node (nB 0) (lA (nB 0) 14) (lA (nB 0) 14)) (.node (nB 0) (lA (nB 0) 14) (fA 15)))))) (.node (nB 0) (.node (nB 0) (.node (nB 0) (.node (nB 0) (.node (nB 0) (lA (nB 0) 14) (lA (nB
  0) 14)) (.node (nB 0) (lA (nB 0) 14) (lA (nB 0) 14))) (.node (nB 0) (.node (nB 0) (lA (nB 0) 14) (lA (nB 0) 14)) (.node (nB 0) (lA (nB 0) 14) (fA 15)))) (.node (nB 0) (.node (nB 0)
  (.node (nB 0) (lA (nB 0) 14) (lA (nB 0) 14)) (.node (nB 0) (lA (nB 0) 14) (fA 15))) (.node (nB 0) (.node (nB 0) (lA (nB 0) 14) (lA (nB 0) 14)) (.node (nB 0) (lA (nB 0) 14) (fA
  15))))) (.node (nB 0) (.node (nB 0) (.node (nB 0) (.node (nB 0) (lA (nB 0) 14) (lA (nB 0) 14)) (.node (nB 0) (lA (nB 0) 14) (lA (nB 0) 14))) (.node (nB 0) (.node (nB 0) (lA (nB 0)
  14) (lA (nB 0) 14)) (.node (nB 0) (lA (nB 0) 14) (fA 15)))) (.node (nB 0) (.node (nB 0) (.node (nB 0) (lA (nB 0) 14) (lA (nB 0) 14)) (.node (nB 0) (lA (nB 0) 14) (fA 15))) (.node
  (nB 0) (.node (nB 0) (lA (nB 0) 14) (lA (nB 0) 14)) (.node (nB 0) (lA (nB 0) 14) (fA 15))))))) (.node (nB 0) (.node (nB 0) (.node (nB 0) (.node (nB 0) (.node (nB 0) (.node (nB 0)
  (lA (nB 0) 14) (lA (nB 0) 14)) (.node (nB 0) (lA (nB 0) 14) (lA (nB 0) 14))) (.node (nB 0) (.node (nB 0) (lA (nB 0) 14) (lA (nB 0) 14)) (.node (nB 0) (lA (nB 0) 14) (fA 15))))
  (.node (nB 0) (.node (nB 0) (.node (nB 0) (lA (nB 0) 14) (lA (nB 0) 14)) (.node (nB 0) (lA (nB 0) 14) (fA 15))) (.node (nB 0) (.node (nB 0) (lA (nB 0) 14) (lA (nB 0) 14)) (.node
  (nB 0) (lA (nB 0) 14) (fA 15))))) (.node (nB 0) (.node (nB 0) (.node (nB 0) (.node (nB 0) (lA (nB 0) 14) (lA (nB 0) 14)) (.node (nB 0) (lA (nB 0) 14) (lA (nB 0) 14))) (.node (nB 0)
  (.node (nB 0) (lA (nB 0) 14) (lA (nB 0) 14)) (.node (nB 0) (lA (nB 0) 14) (fA 15)))) (.node (nB 0) (.node (nB 0) (.node (nB 0) (lA (nB 0) 14) (lA (nB 0) 14)) (.node (nB 0) (lA (nB
  0) 14) (fA 15))) (.node (nB 0) (.node (nB 0) (lA (nB 0) 14) (lA (nB 0) 14)) (.node (nB 0) (lA (nB 0) 14) (fA 15)))))) (.node (nB 255) (.node (nB 0) (.node (nB 0) (.node (nB 0)
  (.node (nB 0) (lA (nB 0) 14) (lA (nB 0) 14)) (.node (nB 0) (lA (nB 0) 14) (lA (nB 0) 14))) (.node (nB 0) (.node (nB 0) (lA (nB 0) 14) (lA (nB 0) 14)) (.node (nB 0) (lA (nB 0) 14)
  (fA 15)))) (.node (nB 0) (.node (nB 0) (.node (nB 0) (lA (nB 0) 14) (lA (nB 0) 14)) (.node (nB 0) (lA (nB 0) 14) (fA 15))) (.node (nB 0) (.node (nB 0) (lA (nB 0) 14) (lA (nB 0)
  14)) (.node (nB 0) (lA (nB 0) 14) (fA 15))))) (.node (nB 0) (.node (nB 0) (.node (nB 0) (.node (nB 0) (lA (nB 0) 14) (lA (nB 0) 14)) (.node (nB 0) (lA (nB 0) 14) (fA 15))) (.node
  (nB 0) (.node (nB 0) (lA (nB 0) 14) (lA (nB 0) 14)) (.node (nB 0) (lA (nB 0) 14) (fA 15)))) (.node (nB 0) (.node (nB 0) (.node (nB 0) (lA (nB 0) 14) (lA (nB 0) 14)) (.node (nB 0)
  (lA (nB 0) 14) (fA 15))) (.node (nB 0) (.node (nB 0) (lA (nB 0) 14) (lA (nB 0) 14)) (.node (nB 0) (lA (nB 0) 14) (fA 15)))))))) (.node (nB 65) (.node (nB 12) (.node (nB 4) (.node
  (nB 0) (.node (nB 0) (.node (nB 0) (.node (nB 0) (lA (nB 0) 14) (lA (nB 0) 14)) (.node (nB 0) (lA (nB 0) 14) (lA (nB 0) 14))) (.node (nB 0) (.node (nB 0) (lA (nB 0) 14) (lA (nB 0)
  14)) (.node (nB 0) (lA (nB 0) 14) (fA 15)))) (.node (nB 0) (.node (nB 0) (.node (nB 0) (lA (nB 0) 14) (lA (nB 0) 14)) (.node (nB 0) (lA (nB 0) 14) (fA 15))) (.node (nB 0) (.node
  (nB 0) (lA (nB 0) 14) (lA (nB 0) 14)) (.node (nB 0) (lA (nB 0) 14) (fA 15))))) (.node (nB 0) (.node (nB 0) (.node (nB 0) (.node (nB 0) (lA (nB 0) 14) (lA (nB 0) 14)) (.node (nB 0)
  (lA (nB 0) 14) (lA (nB 0) 14))) (.node (nB 0) (.node (nB 0) (lA (nB 0) 14) (lA (nB 0) 14)) (.node (nB 0) (lA (nB 0) 14) (fA 15)))) (.node (nB 0) (.node (nB 0) (.node (nB 0) (lA (nB
  0) 14) (lA (nB 0) 14)) (.node (nB 0) (lA (nB 0) 14) (fA 15))) (.node (nB 0) (.node (nB 0) (lA (nB 0) 14) (lA (nB 0) 14)) (.node (nB 0) (lA (nB 0) 14) (fA 15)))))) (.node (nB 243)
  (.node (nB 0) (.node (nB 0) (.node (nB 0) (.node (nB 0) (lA (nB 0) 14) (lA (nB 0) 14)) (.node (nB 0) (lA (nB 0) 14) (lA (nB 0) 14))) (.node (nB 0) (.node (nB 0) (lA (nB 0) 14) (lA
  (nB 0) 14)) (.node (nB 0) (lA (nB 0) 14) (fA 15)))) (.node (nB 0) (.node (nB 0) (.node (nB 0) (lA (nB 0) 14) (lA (nB 0) 14)) (.node (nB 0) (lA (nB 0) 14) (fA 15))) (.node (nB 0)
  (.node (nB 0) (lA (nB 0) 14) (lA (nB 0) 14)) (.node (nB 0) (lA (nB 0) 14) (fA 15))))) (.node (nB 0) (.node (nB 0) (.node (nB 0) (.node (nB 0) (lA (nB 0) 14) (lA (nB 0) 14)) (.node
  (nB 0) (lA (nB 0) 14) (fA 15))) (.node (nB 0) (.node (nB 0) (lA (nB 0) 14) (lA (nB 0) 14)) (.node (nB 0) (lA (nB 0) 14) (fA 15)))) (.node (nB 0) (.node (nB 0) (.node (nB 0) (lA (nB
  0) 14) (lA (nB 0) 14)) (.node (nB 0) (lA (nB 0) 14) (fA 15))) (.node (nB 0) (.node (nB 0) (lA (nB 0) 14) (lA (nB 0) 14)) (.node (nB 0) (lA (nB 0) 14) (fA 15))))))) (.node (nB 0)
  (.node (nB 0) (.node (nB 0) (.node (nB 0) (.node (nB 0) (.node (nB 0) (lA (nB 0) 14) (lA (nB 0) 14)) (.node (nB 0) (lA (nB 0) 14) (lA (nB 0) 14))) (.node (nB 0) (.node (nB 0) (lA
  (nB 0) 14) (lA (nB 0) 14)) (.node (nB 0) (lA (nB 0) 14) (fA 15)))) (.node (nB 0) (.node (nB 0) (.node (nB 0) (lA (nB 0) 14) (lA (nB 0) 14)) (.node (nB 0) (lA (nB 0) 14) (fA 15)))
  (.node (nB 0) (.node (nB 0) (lA (nB 0) 14) (lA (nB 0) 14)) (.node (nB 0) (lA (nB 0) 14) (fA 15))))) (.node (nB 0) (.node (nB 0) (.node (nB 0) (.node (nB 0) (lA (nB 0) 14) (lA (nB
  0) 14)) (.node (nB 0) (lA (nB 0) 14) (lA (nB 0) 14))) (.node (nB 0) (.node (nB 0) (lA (nB 0) 14) (lA (nB 0) 14)) (.node (nB 0) (lA (nB 0) 14) (fA 15)))) (.node (nB 0) (.node (nB 0)
  (.node (nB 0) (lA (nB 0) 14) (lA (nB 0) 14)) (.node (nB 0) (lA (nB 0) 14) (fA 15))) (.node (nB 0) (.node (nB 0) (lA (nB 0) 14) (lA (nB 0) 14)) (.node (nB 0) (lA (nB 0) 14) (fA
  15)))))) (.node (nB 255) (.node (nB 0) (.node (nB 0) (.node (nB 0) (.node (nB 0) (lA (nB 0) 14) (lA (nB 0) 14)) (.node (nB 0) (lA (nB 0) 14) (lA (nB 0) 14))) (.node (nB 0) (.node
  (nB 0) (lA (nB 0) 14) (lA (nB 0) 14)) (.node (nB 0) (lA (nB 0) 14) (fA 15)))) (.node (nB 0) (.node (nB 0) (.node (nB 0) (lA (nB 0) 14) (lA (nB 0) 14)) (.node (nB 0) (lA (nB 0) 14)
  (fA 15))) (.node (nB 0) (.node (nB 0) (lA (nB 0) 14) (lA (nB 0) 14)) (.node (nB 0) (lA (nB 0) 14) (fA 15))))) (.node (nB 0) (.node (nB 0) (.node (nB 0) (.node (nB 0) (lA (nB 0) 14)
  (lA (nB 0) 14)) (.node (nB 0) (lA (nB 0) 14) (fA 15))) (.node (nB 0) (.node (nB 0) (lA (nB 0) 14) (lA (nB 0) 14)) (.node (nB 0) (lA (nB 0) 14) (fA 15)))) (.node (nB 0) (.node (nB
  0) (.node (nB 0) (lA (nB 0) 14) (lA (nB 0) 14)) (.node (nB 0) (lA (nB 0) 14) (fA 15))) (.node (nB 0) (.node (nB 0) (lA (nB 0) 14) (lA (nB 0) 14)) (.node (nB 0) (lA (nB 0) 14) (fA
  15))))))))) (.node (nB 83) (.node (nB 70) (.node (nB 0) (.node (nB 64) (.node (nB 0) (.node (nB 0) (.node (nB 0) (.node (nB 0) (lA (nB 0) 14) (lA (nB 0) 14)) (.node (nB 0) (lA (nB
  0) 14) (lA (nB 0) 14))) (.node (nB 0) (.node (nB 0) (lA (nB 0) 14) (lA (nB 0) 14)) (.node (nB 0) (lA (nB 0) 14) (fA 15)))) (.node (nB 0) (.node (nB 0) (.node (nB 0) (lA (nB 0) 14)
  (lA (nB 0) 14)) (.node (nB 0) (lA (nB 0) 14) (fA 15))) (.node (nB 0) (.node (nB 0) (lA (nB 0) 14) (lA (nB 0) 14)) (.node (nB 0) (lA (nB 0) 14) (fA 15))))) (.node (nB 0) (.node (nB
  0) (.node (nB 0) (.node (nB 0) (lA (nB 0) 14) (lA (nB 0) 14)) (.node (nB 0) (lA (nB 0) 14) (lA (nB 0) 14))) (.node (nB 0) (.node (nB 0) (lA (nB 0) 14) (lA (nB 0) 14)) (.node (nB 0)
  (lA (nB 0) 14) (fA 15)))) (.node (nB 0) (.node (nB 0) (.node (nB 0) (lA (nB 0) 14) (lA (nB 0) 14)) (.node (nB 0) (lA (nB 0) 14) (fA 15))) (.node (nB 0) (.node (nB 0) (lA (nB 0) 14)
  (lA (nB 0) 14)) (.node (nB 0) (lA (nB 0) 14) (fA 15)))))) (.node (nB 255) (.node (nB 0) (.node (nB 0) (.node (nB 0) (.node (nB 0) (lA (nB 0) 14) (lA (nB 0) 14)) (.node (nB 0) (lA
  (nB 0) 14) (lA (nB 0) 14))) (.node (nB 0) (.node (nB 0) (lA (nB 0) 14) (lA (nB 0) 14)) (.node (nB 0) (lA (nB 0) 14) (fA 15)))) (.node (nB 0) (.node (nB 0) (.node (nB 0) (lA (nB 0)
  14) (lA (nB 0) 14)) (.node (nB 0) (lA (nB 0) 14) (fA 15))) (.node (nB 0) (.node (nB 0) (lA (nB 0) 14) (lA (nB 0) 14)) (.node (nB 0) (lA (nB 0) 14) (fA 15))))) (.node (nB 0) (.node
  (nB 0) (.node (nB 0) (.node (nB 0) (lA (nB 0) 14) (lA (nB 0) 14)) (.node (nB 0) (lA (nB 0) 14) (fA 15))) (.node (nB 0) (.node (nB 0) (lA (nB 0) 14) (lA (nB 0) 14)) (.node (nB 0)
  (lA (nB 0) 14) (fA 15)))) (.node (nB 0) (.node (nB 0) (.node (nB 0) (lA (nB 0) 14) (lA (nB 0) 14)) (.node (nB 0) (lA (nB 0) 14) (fA 15))) (.node (nB 0) (.node (nB 0) (lA (nB 0) 14)
  (lA (nB 0) 14)) (.node (nB 0) (lA (nB 0) 14) (fA 15))))))) (.node (nB 0) (.node (nB 0) (.node (nB 0) (.node (nB 0) (.node (nB 0) (.node (nB 0) (lA (nB 0) 14) (lA (nB 0) 14)) (.node
  (nB 0) (lA (nB 0) 14) (lA (nB 0) 14))) (.node (nB 0) (.node (nB 0) (lA (nB 0) 14) (lA (nB 0) 14)) (.node (nB 0) (lA (nB 0) 14) (fA 15)))) (.node (nB 0) (.node (nB 0) (.node (nB 0)
  (lA (nB 0) 14) (lA (nB 0) 14)) (.node (nB 0) (lA (nB 0) 14) (fA 15))) (.node (nB 0) (.node (nB 0) (lA (nB 0) 14) (lA (nB 0) 14)) (.node (nB 0) (lA (nB 0) 14) (fA 15))))) (.node (nB
  0) (.node (nB 0) (.node (nB 0) (.node (nB 0) (lA (nB 0) 14) (lA (nB 0) 14)) (.node (nB 0) (lA (nB 0) 14) (lA (nB 0) 14))) (.node (nB 0) (.node (nB 0) (lA (nB 0) 14) (lA (nB 0) 14))
  (.node (nB 0) (lA (nB 0) 14) (fA 15)))) (.node (nB 0) (.node (nB 0) (.node (nB 0) (lA (nB 0) 14) (lA (nB 0) 14)) (.node (nB 0) (lA (nB 0) 14) (fA 15))) (.node (nB 0) (.node (nB 0)
  (lA (nB 0) 14) (lA (nB 0) 14)) (.node (nB 0) (lA (nB 0) 14) (fA 15)))))) (.node (nB 255) (.node (nB 0) (.node (nB 0) (.node (nB 0) (.node (nB 0) (lA (nB 0) 14) (lA (nB 0) 14))
  (.node (nB 0) (lA (nB 0) 14) (lA (nB 0) 14))) (.node (nB 0) (.node (nB 0) (lA (nB 0) 14) (lA (nB 0) 14)) (.node (nB 0) (lA (nB 0) 14) (fA 15)))) (.node (nB 0) (.node (nB 0) (.node
  (nB 0) (lA (nB 0) 14) (lA (nB 0) 14)) (.node (nB 0) (lA (nB 0) 14) (fA 15))) (.node (nB 0) (.node (nB 0) (lA (nB 0) 14) (lA (nB 0) 14)) (.node (nB 0) (lA (nB 0) 14) (fA 15)))))
  (.node (nB 0) (.node (nB 0) (.node (nB 0) (.node (nB 0) (lA (nB 0) 14) (lA (nB 0) 14)) (.node (nB 0) (lA (nB 0) 14) (fA 15))) (.node (nB 0) (.node (nB 0) (lA (nB 0) 14) (lA (nB 0)
  14)) (.node (nB 0) (lA (nB 0) 14) (fA 15)))) (.node (nB 0) (.node (nB 0) (.node (nB 0) (lA (nB 0) 14) (lA (nB 0) 14)) (.node (nB 0) (lA (nB 0) 14) (fA 15))) (.node (nB 0) (.node
  (nB 0) (lA (nB 0) 14) (lA (nB 0) 14)) (.node (nB 0) (lA (nB 0) 14) (fA 15)))))))) (.node (nB 73) (.node (nB 0) (.node (nB 0) (.node (nB 0) (.node (nB 0) (.node (nB 0) (.node (nB 0)
  (lA (nB 0) 14) (lA (nB 0) 14)) (.node (nB 0) (lA (nB 0) 14) (lA (nB 0) 14))) (.node (nB 0) (.node (nB 0) (lA (nB 0) 14) (lA (nB 0) 14)) (.node (nB 0) (lA (nB 0) 14) (fA 15))))
  (.node (nB 0) (.node (nB 0) (.node (nB 0) (lA (nB 0) 14) (lA (nB 0) 14)) (.node (nB 0) (lA (nB 0) 14) (fA 15))) (.node (nB 0) (.node (nB 0) (lA (nB 0) 14) (lA (nB 0) 14)) (.node
  (nB 0) (lA (nB 0) 14) (fA 15))))) (.node (nB 0) (.node (nB 0) (.node (nB 0) (.node (nB 0) (lA (nB 0) 14) (lA (nB 0) 14)) (.node (nB 0) (lA (nB 0) 14) (lA (nB 0) 14))) (.node (nB 0)
  (.node (nB 0) (lA (nB 0) 14) (lA (nB 0) 14)) (.node (nB 0) (lA (nB 0) 14) (fA 15)))) (.node (nB 0) (.node (nB 0) (.node (nB 0) (lA (nB 0) 14) (lA (nB 0) 14)) (.node (nB 0) (lA (nB
  0) 14) (fA 15))) (.node (nB 0) (.node (nB 0) (lA (nB 0) 14) (lA (nB 0) 14)) (.node (nB 0) (lA (nB 0) 14) (fA 15)))))) (.node (nB 255) (.node (nB 0) (.node (nB 0) (.node (nB 0)
  (.node (nB 0) (lA (nB 0) 14) (lA (nB 0) 14)) (.node (nB 0) (lA (nB 0) 14) (lA (nB 0) 14))) (.node (nB 0) (.node (nB 0) (lA (nB 0) 14) (lA (nB 0) 14)) (.node (nB 0) (lA (nB 0) 14)
  (fA 15)))) (.node (nB 0) (.node (nB 0) (.node (nB 0) (lA (nB 0) 14) (lA (nB 0) 14)) (.node (nB 0) (lA (nB 0) 14) (fA 15))) (.node (nB 0) (.node (nB 0) (lA (nB 0) 14) (lA (nB 0)
  14)) (.node (nB 0) (lA (nB 0) 14) (fA 15))))) (.node (nB 0) (.node (nB 0) (.node (nB 0) (.node (nB 0) (lA (nB 0) 14) (lA (nB 0) 14)) (.node (nB 0) (lA (nB 0) 14) (fA 15))) (.node
  (nB 0) (.node (nB 0) (lA (nB 0) 14) (lA (nB 0) 14)) (.node (nB 0) (lA (nB 0) 14) (fA 15)))) (.node (nB 0) (.node (nB 0) (.node (nB 0) (lA (nB 0) 14) (lA (nB 0) 14)) (.node (nB 0)
  (lA (nB 0) 14) (fA 15))) (.node (nB 0) (.node (nB 0) (lA (nB 0) 14) (lA (nB 0) 14)) (.node (nB 0) (lA (nB 0) 14) (fA 15))))))) (.node (nB 0) (.node (nB 0) (.node (nB 0) (.node (nB
  0) (.node (nB 0) (.node (nB 0) (lA (nB 0) 14) (lA (nB 0) 14)) (.node (nB 0) (lA (nB 0) 14) (lA (nB 0) 14))) (.node (nB 0) (.node (nB 0) (lA (nB 0) 14) (lA (nB 0) 14)) (.node (nB 0)
  (lA (nB 0) 14) (fA 15)))) (.node (nB 0) (.node (nB 0) (.node (nB 0) (lA (nB 0) 14) (lA (nB 0) 14)) (.node (nB 0) (lA (nB 0) 14) (fA 15))) (.node (nB 0) (.node (nB 0) (lA (nB 0) 14)
  (lA (nB 0) 14)) (.node (nB 0) (lA (nB 0) 14) (fA 15))))) (.node (nB 0) (.node (nB 0) (.node (nB 0) (.node (nB 0) (lA (nB 0) 14) (lA (nB 0) 14)) (.node (nB 0) (lA (nB 0) 14) (lA (nB
  0) 14))) (.node (nB 0) (.node (nB 0) (lA (nB 0) 14) (lA (nB 0) 14)) (.node (nB 0) (lA (nB 0) 14) (fA 15)))) (.node (nB 0) (.node (nB 0) (.node (nB 0) (lA (nB 0) 14) (lA (nB 0) 14))
  (.node (nB 0) (lA (nB 0) 14) (fA 15))) (.node (nB 0) (.node (nB 0) (lA (nB 0) 14) (lA (nB 0) 14)) (.node (nB 0) (lA (nB 0) 14) (fA 15)))))) (.node (nB 255) (.node (nB 0) (.node (nB
  0) (.node (nB 0) (.node (nB 0) (lA (nB 0) 14) (lA (nB 0) 14)) (.node (nB 0) (lA (nB 0) 14) (lA (nB 0) 14))) (.node (nB 0) (.node (nB 0) (lA (nB 0) 14) (lA (nB 0) 14)) (.node (nB 0)
  (lA (nB 0) 14) (fA 15)))) (.node (nB 0) (.node (nB 0) (.node (nB 0) (lA (nB 0) 14) (lA (nB 0) 14)) (.node (nB 0) (lA (nB 0) 14) (fA 15))) (.node (nB 0) (.node (nB 0) (lA (nB 0) 14)
  (lA (nB 0) 14)) (.node (nB 0) (lA (nB 0) 14) (fA 15))))) (.node (nB 0) (.node (nB 0) (.node (nB 0) (.node (nB 0) (lA (nB 0) 14) (lA (nB 0) 14)) (.node (nB 0) (lA (nB 0) 14) (fA
  15))) (.node (nB 0) (.node (nB 0) (lA (nB 0) 14) (lA (nB 0) 14)) (.node (nB 0) (lA (nB 0) 14) (fA 15)))) (.node (nB 0) (.node (nB 0) (.node (nB 0) (lA (nB 0) 14) (lA (nB 0) 14))
  (.node (nB 0) (lA (nB 0) 14) (fA 15))) (.node (nB 0) (.node (nB 0) (lA (nB 0) 14) (lA (nB 0) 14)) (.node (nB 0) (lA (nB 0) 14) (fA 15)))))))))) false false) 10)) (fD 12)) (fD
  13))))) (fD 17))) (.node .dead (fD 18) (.node .dead (.node .dead (.node .dead (fD 15) (.node .dead (fD 14) (.node .dead (.node .dead (.node .dead (lD o45 10) (fD 11)) (fD 12)) (fD
  13)))) (fD 16)) (fD 17)))) (.node .dead (.node .dead (.node .dead (fD 17) (.node .dead (.node .dead (.node .dead (fD 14) (.node .dead (fD 13) (.node .dead (.node .dead (lD o1 10)
  (fD 11)) (fD 12)))) (fD 15)) (fD 16))) (.node .dead (fD 17) (.node .dead (fD 16) (.node .dead (.node .dead (fD 14) (.node .dead (.node .dead (.node .dead (lD (.cells 348 1 1 (lA
  .nilsl 23) true false) 10) (fD 11)) (fD 12)) (fD 13))) (fD 15))))) (fD 19)))))), 13224⟩,
  [.code (codeAt Tryz.f56 [1])]⟩
/-- where the run stands at the end of part 30 -/
noncomputable def s30 : St :=
  ⟨⟨170, 20, [], .normal, none,
  [o53,
    o60,
    o56,
    o55,
    o58,
    o49,
    o57,
    o61,
    o59,
    o48,
    o46,
    o6]⟩,
  .run,
  (.node (.sl 12877 0 0 384 (.u
  12877 0)) (.node undefV (.node (.sl 13606 0 0 1944 (.u 13606 0)) (.node (.sl 12877 0 0 384 (.u 12877 0)) (lU (.sl 13603 0 0 1936 (.u 13603 0)) 19) (fU 20)) (lU (.ptr 12877 243)
  20)) (.node (nU 0) (.node (nI 243) (lU (.sl 13606 0 0 1944 (.u 13606 0)) 19) (fU 20)) (lU (nU 0) 20))) (.node .nilsl (.node undefV (.node (nI 384) (lU (.sl 13605 0 0 8 (.k 8)) 19)
  (fU 20)) (lU (nU 0) 20)) (.node (.ptr 13605 0) (.node (.bool true) (lU (nI 243) 19) (fU 20)) (lU (.agg [(nB 0), (nB 0), (nB 0), (nB 0), (nB 0), (nB 0), (nB 0), (nB 0)]) 20)))),
 
  ⟨(.node (.cells 31 10 10 (.node .nil (.node (nI 0) (.node (nI 0) (lA .nil 20) (fA 21)) (.node (.bool false) (lA .nilfn 20) (fA 21))) (.node (nI 0) (.node .nilsl (lA .nil 20) (fA
  21)) (lA .nilsl 21))) true false) (.node .dead (.node o1 (.node (.cells 5 1 64 (fB 24) true false) (.node .dead (.node .dead (.node .dead (fD 17) (lD (.map [] 0) 16)) (fD 18))
  (.node .dead (fD 18) (.node .dead (fD 17) (.node .dead (fD 16) (.node .dead (.node .dead (fD 14) (.node .dead (.node .dead (.node .dead (lD (.cells 348 1 1 (lA (.sl 8989 0 0 4 (.u
  8989 0)) 23) true false) 10) (fD 11)) (fD 12)) (fD 13))) (fD 15)))))) (.node .dead (.node .dead (.node .dead (fD 17) (.node .dead (.node .dead (.node .dead (fD 14) (.node .dead
  (.node .dead (.node .dead (fD 11) (lD (.cells 49 10 10 (.node (nI 7) (.node (nI 0) (.node (nU 0) (lA (nU 0) 20) (fA 21)) (.node (nI 0) (lA .nilsl 20) (fA 21))) (.node (nI 0) (.node
  (nU 0) (lA (nI 0) 20) (fA 21)) (lA (.str (bs [])) 21))) true false) 10)) (fD 12)) (fD 13))) (fD 15)) (.node .dead (fD 15) (lD o15 14)))) (fD 18)) (.node .dead (fD 18) (.node .dead
  (.node .dead (.node .dead (fD 15) (.node .dead (fD 14) (.node .dead (.node .dead (.node .dead (lD (.cells 211 3 3 (.node (.ptr 192 0) (lA (.ptr 8938 0) 22) (lA (.ptr 9014 0) 22))
  true false) 10) (fD 11)) (fD 12)) (fD 13)))) (fD 16)) (fD 17))))) (.node .dead (.node .dead (.node .dead (fD 18) (lD (.cells 99 3 3 (.node .nilsl (lA .nilsl 22) (lA (.bool false)
  22)) false false) 17)) (fD 19)) (.node .dead (.node .dead (.node .dead (fD 17) (.node .dead (.node .dead (.node .dead (fD 14) (.node .dead (.node .dead (.node .dead (fD 11) (lD
  (.cells 49 10 10 (.node (nI 7) (.node (nI 0) (.node (nU 0) (lA (nU 0) 20) (fA 21)) (.node (nI 0) (lA .nilsl 20) (fA 21))) (.node (nI 0) (.node (nU 0) (lA (nI 0) 20) (fA 21)) (lA
  (.str (bs [])) 21))) true false) 10)) (fD 12)) (.node .dead (.node .dead (lD (.cells 242 9 9 (.node (.ptr 9015 0) (.node (.ptr 9030 0) (.node (.fn (.func 126) [(.ptr 9803 0)] [])
  (lA (.bool false) 20) (fA 21)) (lA .nilsl 21)) (.node .nil (.node .nilsl (lA (nI 0) 20) (fA 21)) (lA .nilsl 21))) true false) 10) (fD 11)) (fD 12)))) (fD 15)) (fD 16))) (fD 18))
  (.node (.cells 5 1 64 (fB 24) true false) (fD 18) (.node .dead (.node .dead (.node .dead (fD 15) (.node .dead (fD 14) (.node .dead (.node .dead (.node .dead (lD o44 10) (fD 11))
  (fD 12)) (fD 13)))) (fD 16)) (fD 17)))))) (.node .dead (.node .dead (.node .dead (lD (.cells 5 1 64 (fB 24) true false) 18) (.node .dead (.node .dead (fD 17) (.node .dead (.node
  .dead (fD 15) (.node .dead (fD 14) (lD (.cells 106 12 12 (.node (nI 1) (.node (nI 0) (.node (nI 0) (lA (.str (bs [])) 20) (lA (nI 0) 20)) (.node (nU 0) (lA (nI 0) 20) (fA 21)))
  (.node (nI 0) (.node (nU 0) (lA (nU 0) 20) (fA 21)) (.node (nI 0) (lA .nilsl 20) (fA 21)))) true false) 13))) (fD 16))) (fD 18))) (.node .dead (.node .dead (.node .dead (fD 17)
  (.node .dead (.node .dead (.node .dead (fD 14) (.node .dead (.node .dead (.node .dead (fD 11) (lD (.map [⟨(nI 1), (.fn (.func 33) [] []), 0⟩, ⟨(nI 2), (.fn (.func 34) [] []), 1⟩,
  ⟨(nI 3), (.fn (.func 35) [] []), 2⟩, ⟨(nI 4), (.fn (.func 36) [] []), 3⟩, ⟨(nI 5), (.fn (.func 37) [] []), 4⟩, ⟨(nI 6), (.fn (.func 38) [] []), 5⟩, ⟨(nI 7), (.fn (.func 39) [] []),
  6⟩] 7) 10)) (fD 12)) (fD 13))) (fD 15)) (fD 16))) (.node .dead (fD 17) (.node .dead (fD 16) (.node .dead (.node .dead (fD 14) (.node .dead (.node .dead (.node .dead (lD (.map [⟨(nU
  1088), (nI 2), 0⟩] 1) 10) (fD 11)) (fD 12)) (fD 13))) (fD 15))))) (.node .dead (fD 18) (.node .dead (.node .dead (.node .dead (fD 15) (.node .dead (fD 14) (.node .dead (.node .dead
  (.node .dead (lD (.cells 198 4 4 (.node (.ptr 9015 0) (.node (.sl 9016 0 0 1 (.k 1)) (lA (nI 0) 21) (fA 22)) (lA .nilsl 22)) true false) 10) (fD 11)) (fD 12)) (fD 13)))) (fD 16))
  (fD 17))))) (.node .dead (.node .dead (.node .dead (.node .dead (fD 17) (.node .dead (fD 16) (.node .dead (fD 15) (lD o15 14)))) (.node .dead (.node .dead (.node .dead (fD 15)
  (.node .dead (.node .dead (fD 13) (.node .dead (.node .dead (fD 11) (lD (.cells 147 8 8 (.node (nB 0) (.node (nB 0) (.node (nB 0) (lA (nB 0) 20) (fA 21)) (lA (nB 0) 21)) (.node (nB
  0) (lA (nB 0) 21) (lA (nB 0) 21))) true false) 10)) (fD 12))) (fD 14))) (fD 16)) (fD 17))) (.node .dead (lD (.cells 31 10 10 (.node (.ptr 61 0) (.node (nI 1) (.node (nI 0) (lA .nil
  20) (fA 21)) (.node (.bool false) (lA .nilfn 20) (fA 21))) (.node (nI 1) (.node .nilsl (lA .nil 20) (fA 21)) (lA .nilsl 21))) true false) 17) (.node .dead (.node .dead (.node .dead
  (fD 15) (.node .dead (fD 14) (.node .dead (.node .dead (.node .dead (lD (.map [] 0) 10) (fD 11)) (fD 12)) (fD 13)))) (fD 16)) (fD 17)))) (.node .dead (.node .dead (.node .dead (fD
  17) (.node .dead (.node .dead (.node .dead (fD 14) (.node .dead (.node .dead (.node .dead (fD 11) (lD o15 10)) (fD 12)) (.node .dead (.node .dead (lD o47 10) (fD 11)) (fD 12))))
  (fD 15)) (fD 16))) (.node .dead (fD 17) (.node .dead (fD 16) (.node .dead (.node .dead (fD 14) (.node .dead (.node .dead (.node .dead (lD (.cells 348 1 1 (lA .nilsl 23) true false)
  10) (fD 11)) (fD 12)) (fD 13))) (fD 15))))) (.node (.cells 114 7 7 (.node (.sl 84 0 0 8 (.u 84 0)) (.node (.sl 82 0 0 8 (.u 82 0)) (lA (nU 0) 21) (lA (nU 0) 21)) (.node (.map 60)
  (lA (nU 0) 21) (lA (nU 0) 21))) true false) (.node o1 (.node .dead (.node .dead (fD 15) (.node .dead (fD 14) (.node .dead (.node .dead (.node .dead (lD (.cells 46 1 5 (.node (nU
  1280) (.node (nU 1664) (lA (nU 1856) 21) (fA 22)) (.node (nU 1472) (lA (nU 1088) 21) (fA 22))) false false) 10) (fD 11)) (fD 12)) (fD 13)))) (fD 16)) (fD 17)) (.node .dead (.node
  .dead (.node .dead (fD 15) (.node .dead (fD 14) (.node .dead (.node .dead (.node .dead (lD (.cells 49 10 10 (.node (nI 6) (.node (nI 0) (.node (nU 0) (lA (nU 0) 20) (fA 21)) (.node
  (nI 0) (lA .nilsl 20) (fA 21))) (.node (nI 0) (.node (nU 0) (lA (nI 0) 20) (fA 21)) (lA (.str (bs [])) 21))) true false) 10) (fD 11)) (fD 12)) (fD 13)))) (fD 16)) (fD 17)))))))
  (.node .dead (.node .dead (.node .dead (.node .dead (.node .dead (.node .dead (fD 17) (lD (.cells 114 7 7 (.node (.sl 967 0 0 384 (.u 967 0)) (.node (.sl 965 0 0 384 (.u 965 0))
  (lA (nU 768) 21) (lA (nU 0) 21)) (.node (.map 191) (lA (nU 0) 21) (lA (nU 0) 21))) true false) 16)) (fD 18)) (fD 19)) (.node .dead (.node .dead (.node .dead (fD 17) (.node .dead
  (.node .dead (.node .dead (fD 14) (.node .dead (.node .dead (.node .dead (fD 11) (lD o1 10)) (fD 12)) (fD 13))) (fD 15)) (.node .dead (fD 15) (lD o52 14)))) (.node .dead (fD 17)
  (.node .dead (fD 16) (.node .dead (.node .dead (fD 14) (.node .dead (.node .dead (.node .dead (lD (.cells 298 2 6 (.node (nI 0) (.node (nU 0) (lA (nU 1) 21) (lA (nU 0) 21)) (.node
  (nI 3) (lA (nI 0) 21) (fA 22))) true false) 10) (fD 11)) (fD 12)) (fD 13))) (fD 15))))) (.node .dead (fD 18) (.node .dead (.node .dead (.node .dead (fD 15) (.node .dead (fD 14)
  (.node .dead (.node .dead (.node .dead (lD (.cells 204 2 2 (.node .nilif (lA (nI 0) 22) (fA 23)) true false) 10) (fD 11)) (fD 12)) (fD 13)))) (fD 16)) (fD 17))))) (.node .dead
  (.node .dead (.node .dead (fD 18) (lD o7 17)) (.node .dead (lD (.cells 43 1 8 (.node (nU 0) (.node (nU 0) (.node (nU 0) (lA (nU 0) 20) (fA 21)) (lA (nU 0) 21)) (.node (nU 0) (lA
  (nU 0) 21) (lA (nU 0) 21))) false false) 17) (fD 18))) (.node .dead (.node .dead (.node .dead (fD 17) (.node .dead (.node .dead (.node .dead (fD 14) (.node .dead (.node .dead
  (.node .dead (fD 11) (lD (.cells 43 1 1 (lA (nU 0) 23) true false) 10)) (fD 12)) (.node .dead (.node .dead (lD (.cells 174 1 1 (lA (.ptr 9803 0) 23) true false) 10) (fD 11)) (fD
  12)))) (fD 15)) (fD 16))) (.node .dead (fD 17) (.node .dead (fD 16) (.node .dead (.node .dead (fD 14) (.node .dead (.node .dead (.node .dead (lD (.cells 348 1 1 (lA .nilsl 23) true
  false) 10) (fD 11)) (fD 12)) (fD 13))) (fD 15))))) (.node (.map [] 0) (fD 18) (.node .dead (.node .dead (.node .dead (fD 15) (.node .dead (fD 14) (.node .dead (.node .dead (.node
  .dead (lD (.cells 106 12 12 (.node (nI 2) (.node (nI 0) (.node (nI 0) (lA (.str (bs [])) 20) (lA (nI 0) 20)) (.node (nU 0) (lA (nI 0) 20) (fA 21))) (.node (nI 0) (.node (nU 0) (lA
  (nU 0) 20) (fA 21)) (.node (nI 0) (lA .nilsl 20) (fA 21)))) true false) 10) (fD 11)) (fD 12)) (fD 13)))) (fD 16)) (fD 17)))))) (.node o1 (.node .dead (.node .dead (.node .dead
  (.node .dead (fD 17) (.node .dead (.node .dead (fD 15) (.node .dead (fD 14) (.node .dead (.node .dead (.node .dead (lD (.cells 22 1 1 (lA (.ptr 968 0) 23) true false) 10) (fD 11))
  (fD 12)) (fD 13)))) (fD 16))) (fD 18)) (.node .dead (lD (.cells 43 1 8 (.node (nU 0) (.node (nU 0) (.node (nU 0) (lA (nU 0) 20) (fA 21)) (lA (nU 0) 21)) (.node (nU 0) (lA (nU 0)
  21) (lA (nU 0) 21))) false false) 17) (fD 18))) (.node .dead (.node .dead (.node .dead (fD 17) (.node .dead (.node .dead (.node .dead (fD 14) (.node .dead (.node .dead (.node .dead
  (fD 11) (lD o50 10)) (fD 12)) (.node .dead (.node .dead (lD o19 10) (fD 11)) (fD 12)))) (fD 15)) (fD 16))) (.node .dead (fD 17) (.node .dead (fD 16) (.node .dead (.node .dead (fD
  14) (.node .dead (.node .dead (.node .dead (lD (.cells 294 7 7 (.node (nI 3072) (.node (.sl 8936 0 0 3 (.k 3)) (lA (.ptr 8941 0) 21) (lA (.ptr 8943 0) 21)) (.node (.ptr 8940 0) (lA
  (.ptr 8942 0) 21) (lA (.map 8937) 21))) true false) 10) (fD 11)) (fD 12)) (fD 13))) (fD 15))))) (fD 19))) (.node .dead (.node .dead (.node .dead (.node .dead (fD 17) (.node .dead
  (.node .dead (.node .dead (fD 14) (.node .dead (.node .dead (.node .dead (fD 11) (lD o51 10)) (fD 12)) (fD 13))) (.node .dead (fD 14) (.node .dead (.node .dead (.node .dead (lD o54
  10) (fD 11)) (fD 12)) (fD 13)))) (fD 16))) (.node .dead (.node .dead (.node .dead (fD 15) (.node .dead (.node .dead (fD 13) (.node .dead (.node .dead (fD 11) (lD (.cells 5 1 1944
  (.node (nB 70) (.node (nB 65) (.node (nB 84) (.node (nB 82) (.node (nB 0) (.node (nB 255) (.node (nB 0) (.node (nB 0) (.node (nB 0) (.node (nB 0) (lA (nB 0) 13) (lA (nB 0) 13))
  (.node (nB 0) (lA (nB 0) 13) (lA (nB 0) 13))) (.node (nB 0) (.node (nB 0) (lA (nB 0) 13) (lA (nB 0) 13)) (.node (nB 0) (lA (nB 0) 13) (lA (nB 0) 13)))) (.node (nB 0) (.node (nB 0)
  (.node (nB 0) (lA (nB 0) 13) (lA (nB 0) 13)) (.node (nB 0) (lA (nB 0) 13) (lA (nB 0) 13))) (.node (nB 0) (.node (nB 0) (lA (nB 0) 13) (lA (nB 0) 13)) (.node (nB 0) (lA (nB 0) 13)
  (fA 14))))) (.node (nB 0) (.node (nB 0) (.node (nB 0) (.node (nB 0) (lA (nB 0) 13) (lA (nB 0) 13)) (.node (nB 0) (lA (nB 0) 13) (lA (nB 0) 13))) (.node (nB 0) (.node (nB 0) (lA (nB
  0) 13) (lA (nB 0) 13)) (.node (nB 0) (lA (nB 0) 13) (fA 14)))) (.node (nB 0) (.node (nB 0) (.node (nB 0) (lA (nB 0) 13) (lA (nB 0) 13)) (.node (nB 0) (lA (nB 0) 13) (lA (nB 0)
  13))) (.node (nB 0) (.node (nB 0) (lA (nB 0) 13) (lA (nB 0) 13)) (.node (nB 0) (lA (nB 0) 13) (fA 14)))))) (.node (nB 0) (.node (nB 0) (.node (nB 0) (.node (nB 0) (.node (nB 0) (lA
  (nB 0) 13) (lA (nB 0) 13)) (.node (nB 0) (lA (nB 0) 13) (lA (nB 0) 13))) (.node (nB 0) (.node (nB 0) (lA (nB 0) 13) (lA (nB 0) 13)) (.node (nB 0) (lA (nB 0) 13) (lA (nB 0) 13))))
  (.node (nB 0) (.node (nB 0) (.node (nB 0) (lA (nB 0) 13) (lA (nB 0) 13)) (.node (nB 0) (lA (nB 0) 13) (lA (nB 0) 13))) (.node (nB 0) (.node (nB 0) (lA (nB 0) 13) (lA (nB 0) 13))
  (.node (nB 0) (lA (nB 0) 13) (fA 14))))) (.node (nB 0) (.node (nB 0) (.node (nB 0) (.node (nB 0) (lA (nB 0) 13) (lA (nB 0) 13)) (.node (nB 0) (lA (nB 0) 13) (lA (nB 0) 13))) (.node
  (nB 0) (.node (nB 0) (lA (nB 0) 13) (lA (nB 0) 13)) (.node (nB 0) (lA (nB 0) 13) (fA 14)))) (.node (nB 0) (.node (nB 0) (.node (nB 0) (lA (nB 0) 13) (lA (nB 0) 13)) (.node (nB 0)
  (lA (nB 0) 13) (lA (nB 0) 13))) (.node (nB 0) (.node (nB 0) (lA (nB 0) 13) (lA (nB 0) 13)) (.node (nB 0) (lA (nB 0) 13) (fA 14))))))) (.node (nB 0) (.node (nB 0) (.node (nB 0)
  (.node (nB 0) (.node (nB 0) (.node (nB 0) (lA (nB 0) 13) (lA (nB 0) 13)) (.node (nB 0) (lA (nB 0) 13) (lA (nB 0) 13))) (.node (nB 0) (.node (nB 0) (lA (nB 0) 13) (lA (nB 0) 13))
  (.node (nB 0) (lA (nB 0) 13) (lA (nB 0) 13)))) (.node (nB 0) (.node (nB 0) (.node (nB 0) (lA (nB 76) 13) (lA (nB 0) 13)) (.node (nB 0) (lA (nB 0) 13) (lA (nB 0) 13))) (.node (nB 0)
  (.node (nB 0) (lA (nB 0) 13) (lA (nB 0) 13)) (.node (nB 0) (lA (nB 0) 13) (fA 14))))) (.node (nB 0) (.node (nB 0) (.node (nB 0) (.node (nB 0) (lA (nB 0) 13) (lA (nB 0) 13)) (.node
  (nB 0) (lA (nB 0) 13) (lA (nB 0) 13))) (.node (nB 0) (.node (nB 0) (lA (nB 0) 13) (lA (nB 0) 13)) (.node (nB 0) (lA (nB 0) 13) (fA 14)))) (.node (nB 0) (.node (nB 0) (.node (nB 0)
  (lA (nB 0) 13) (lA (nB 0) 13)) (.node (nB 0) (lA (nB 0) 13) (lA (nB 0) 13))) (.node (nB 0) (.node (nB 0) (lA (nB 0) 13) (lA (nB 0) 13)) (.node (nB 0) (lA (nB 0) 13) (fA 14))))))
  (.node (nB 0) (.node (nB 0) (.node (nB 0) (.node (nB 0) (.node (nB 0) (lA (nB 0) 13) (lA (nB 0) 13)) (.node (nB 0) (lA (nB 0) 13) (lA (nB 0) 13))) (.node (nB 0) (.node (nB 0) (lA
  (nB 0) 13) (lA (nB 0) 13)) (.node (nB 0) (lA (nB 0) 13) (lA (nB 0) 13)))) (.node (nB 0) (.node (nB 0) (.node (nB 0) (lA (nB 0) 13) (lA (nB 0) 13)) (.node (nB 0) (lA (nB 0) 13) (lA
  (nB 0) 13))) (.node (nB 0) (.node (nB 0) (lA (nB 0) 13) (lA (nB 0) 13)) (.node (nB 0) (lA (nB 0) 13) (fA 14))))) (.node (nB 0) (.node (nB 0) (.node (nB 0) (.node (nB 0) (lA (nB 0)
  13) (lA (nB 0) 13)) (.node (nB 0) (lA (nB 0) 13) (lA (nB 0) 13))) (.node (nB 0) (.node (nB 0) (lA (nB 0) 13) (lA (nB 0) 13)) (.node (nB 0) (lA (nB 0) 13) (fA 14)))) (.node (nB 0)
  (.node (nB 0) (.node (nB 0) (lA (nB 0) 13) (lA (nB 0) 13)) (.node (nB 0) (lA (nB 0) 13) (lA (nB 0) 13))) (.node (nB 0) (.node (nB 0) (lA (nB 0) 13) (lA (nB 0) 13)) (.node (nB 0)
  (lA (nB 0) 13) (fA 14)))))))) (.node (nB 0) (.node (nB 0) (.node (nB 0) (.node (nB 0) (.node (nB 0) (.node (nB 0) (.node (nB 0) (lA (nB 0) 13) (lA (nB 0) 13)) (.node (nB 0) (lA (nB
  0) 13) (lA (nB 0) 13))) (.node (nB 0) (.node (nB 0) (lA (nB 0) 13) (lA (nB 0) 13)) (.node (nB 0) (lA (nB 0) 13) (lA (nB 0) 13)))) (.node (nB 0) (.node (nB 0) (.node (nB 0) (lA (nB
  69) 13) (lA (nB 0) 13)) (.node (nB 0) (lA (nB 0) 13) (lA (nB 0) 13))) (.node (nB 0) (.node (nB 0) (lA (nB 0) 13) (lA (nB 0) 13)) (.node (nB 0) (lA (nB 0) 13) (fA 14))))) (.node (nB
  0) (.node (nB 0) (.node (nB 0) (.node (nB 0) (lA (nB 0) 13) (lA (nB 0) 13)) (.node (nB 0) (lA (nB 0) 13) (lA (nB 0) 13))) (.node (nB 0) (.node (nB 0) (lA (nB 0) 13) (lA (nB 0) 13))
  (.node (nB 0) (lA (nB 0) 13) (fA 14)))) (.node (nB 0) (.node (nB 0) (.node (nB 0) (lA (nB 0) 13) (lA (nB 0) 13)) (.node (nB 0) (lA (nB 0) 13) (lA (nB 0) 13))) (.node (nB 0) (.node
  (nB 0) (lA (nB 0) 13) (lA (nB 0) 13)) (.node (nB 0) (lA (nB 0) 13) (fA 14)))))) (.node (nB 0) (.node (nB 0) (.node (nB 0) (.node (nB 0) (.node (nB 0) (lA (nB 0) 13) (lA (nB 0) 13))
  (.node (nB 0) (lA (nB 0) 13) (lA (nB 0) 13))) (.node (nB 0) (.node (nB 0) (lA (nB 0) 13) (lA (nB 0) 13)) (.node (nB 0) (lA (nB 0) 13) (lA (nB 0) 13)))) (.node (nB 0) (.node (nB 0)
  (.node (nB 0) (lA (nB 0) 13) (lA (nB 0) 13)) (.node (nB 0) (lA (nB 0) 13) (lA (nB 0) 13))) (.node (nB 0) (.node (nB 0) (lA (nB 0) 13) (lA (nB 0) 13)) (.node (nB 0) (lA (nB 0) 13)
  (fA 14))))) (.node (nB 0) (.node (nB 0) (.node (nB 0) (.node (nB 0) (lA (nB 0) 13) (lA (nB 0) 13)) (.node (nB 0) (lA (nB 0) 13) (lA (nB 0) 13))) (.node (nB 0) (.node (nB 0) (lA (nB
  0) 13) (lA (nB 0) 13)) (.node (nB 0) (lA (nB 0) 13) (fA 14)))) (.node (nB 0) (.node (nB 0) (.node (nB 0) (lA (nB 0) 13) (lA (nB 0) 13)) (.node (nB 0) (lA (nB 0) 13) (lA (nB 0)
  13))) (.node (nB 0) (.node (nB 0) (lA (nB 0) 13) (lA (nB 0) 13)) (.node (nB 0) (lA (nB 0) 13) (fA 14))))))) (.node (nB 255) (.node (nB 0) (.node (nB 0) (.node (nB 0) (.node (nB 0)
  (.node (nB 0) (lA (nB 0) 13) (lA (nB 0) 13)) (.node (nB 0) (lA (nB 0) 13) (lA (nB 0) 13))) (.node (nB 0) (.node (nB 0) (lA (nB 0) 13) (lA (nB 0) 13)) (.node (nB 0) (lA (nB 0) 13)
  (lA (nB 0) 13)))) (.node (nB 0) (.node (nB 0) (.node (nB 0) (lA (nB 0) 13) (lA (nB 0) 13)) (.node (nB 0) (lA (nB 0) 13) (lA (nB 0) 13))) (.node (nB 0) (.node (nB 0) (lA (nB 0) 13)
  (lA (nB 0) 13)) (.node (nB 0) (lA (nB 0) 13) (fA 14))))) (.node (nB 0) (.node (nB 0) (.node (nB 0) (.node (nB 0) (lA (nB 0) 13) (lA (nB 0) 13)) (.node (nB 0) (lA (nB 0) 13) (lA (nB
  0) 13))) (.node (nB 0) (.node (nB 0) (lA (nB 0) 13) (lA (nB 0) 13)) (.node (nB 0) (lA (nB 0) 13) (fA 14)))) (.node (nB 0) (.node (nB 0) (.node (nB 0) (lA (nB 0) 13) (lA (nB 0) 13))
  (.node (nB 0) (lA (nB 0) 13) (lA (nB 0) 13))) (.node (nB 0) (.node (nB 0) (lA (nB 0) 13) (lA (nB 0) 13)) (.node (nB 0) (lA (nB 0) 13) (fA 14)))))) (.node (nB 0) (.node (nB 0)
  (.node (nB 0) (.node (nB 0) (.node (nB 0) (lA (nB 0) 13) (lA (nB 0) 13)) (.node (nB 0) (lA (nB 0) 13) (lA (nB 0) 13))) (.node (nB 0) (.node (nB 0) (lA (nB 0) 13) (lA (nB 0) 13))
  (.node (nB 0) (lA (nB 0) 13) (fA 14)))) (.node (nB 0) (.node (nB 0) (.node (nB 0) (lA (nB 0) 13) (lA (nB 0) 13)) (.node (nB 0) (lA (nB 0) 13) (lA (nB 0) 13))) (.node (nB 0) (.node
  (nB 0) (lA (nB 0) 13) (lA (nB 0) 13)) (.node (nB 0) (lA (nB 0) 13) (fA 14))))) (.node (nB 0) (.node (nB 0) (.node (nB 0) (.node (nB 0) (lA (nB 0) 13) (lA (nB 0) 13)) (.node (nB 0)
  (lA (nB 0) 13) (lA (nB 0) 13))) (.node (nB 0) (.node (nB 0) (lA (nB 0) 13) (lA (nB 0) 13)) (.node (nB 0) (lA (nB 0) 13) (fA 14)))) (.node (nB 0) (.node (nB 0) (.node (nB 0) (lA (nB
  0) 13) (lA (nB 0) 13)) (.node (nB 0) (lA (nB 0) 13) (lA (nB 0) 13))) (.node (nB 0) (.node (nB 0) (lA (nB 0) 13) (lA (nB 0) 13)) (.node (nB 0) (lA (nB 0) 13) (fA 14))))))))) (.node
  (nB 65) (.node (nB 12) (.node (nB 4) (.node (nB 0) (.node (nB 0) (.node (nB 0) (.node (nB 0) (.node (nB 0) (lA (nB 0) 13) (lA (nB 0) 13)) (.node (nB 0) (lA (nB 0) 13) (lA (nB 0)
  13))) (.node (nB 0) (.node (nB 0) (lA (nB 0) 13) (lA (nB 0) 13)) (.node (nB 0) (lA (nB 0) 13) (lA (nB 0) 13)))) (.node (nB 0) (.node (nB 0) (.node (nB 0) (lA (nB 0) 13) (lA (nB 0)
  13)) (.node (nB 0) (lA (nB 0) 13) (lA (nB 0) 13))) (.node (nB 0) (.node (nB 0) (lA (nB 0) 13) (lA (nB 0) 13)) (.node (nB 0) (lA (nB 0) 13) (fA 14))))) (.node (nB 0) (.node (nB 0)
  (.node (nB 0) (.node (nB 0) (lA (nB 0) 13) (lA (nB 0) 13)) (.node (nB 0) (lA (nB 0) 13) (lA (nB 0) 13))) (.node (nB 0) (.node (nB 0) (lA (nB 0) 13) (lA (nB 0) 13)) (.node (nB 0)
  (lA (nB 0) 13) (fA 14)))) (.node (nB 0) (.node (nB 0) (.node (nB 0) (lA (nB 4) 13) (lA (nB 0) 13)) (.node (nB 0) (lA (nB 0) 13) (lA (nB 0) 13))) (.node (nB 0) (.node (nB 0) (lA (nB
  0) 13) (lA (nB 0) 13)) (.node (nB 0) (lA (nB 0) 13) (fA 14)))))) (.node (nB 0) (.node (nB 0) (.node (nB 0) (.node (nB 0) (.node (nB 0) (lA (nB 0) 13) (lA (nB 0) 13)) (.node (nB 0)
  (lA (nB 0) 13) (lA (nB 0) 13))) (.node (nB 0) (.node (nB 0) (lA (nB 0) 13) (lA (nB 0) 13)) (.node (nB 0) (lA (nB 0) 13) (lA (nB 0) 13)))) (.node (nB 0) (.node (nB 0) (.node (nB 0)
  (lA (nB 0) 13) (lA (nB 0) 13)) (.node (nB 0) (lA (nB 0) 13) (lA (nB 0) 13))) (.node (nB 0) (.node (nB 0) (lA (nB 0) 13) (lA (nB 0) 13)) (.node (nB 0) (lA (nB 0) 13) (fA 14)))))
  (.node (nB 0) (.node (nB 0) (.node (nB 0) (.node (nB 0) (lA (nB 0) 13) (lA (nB 0) 13)) (.node (nB 0) (lA (nB 0) 13) (lA (nB 0) 13))) (.node (nB 0) (.node (nB 0) (lA (nB 0) 13) (lA
  (nB 0) 13)) (.node (nB 0) (lA (nB 0) 13) (fA 14)))) (.node (nB 0) (.node (nB 0) (.node (nB 0) (lA (nB 0) 13) (lA (nB 0) 13)) (.node (nB 0) (lA (nB 0) 13) (lA (nB 0) 13))) (.node
  (nB 0) (.node (nB 0) (lA (nB 0) 13) (lA (nB 0) 13)) (.node (nB 0) (lA (nB 0) 13) (fA 14))))))) (.node (nB 243) (.node (nB 0) (.node (nB 0) (.node (nB 0) (.node (nB 0) (.node (nB 0)
  (lA (nB 0) 13) (lA (nB 0) 13)) (.node (nB 0) (lA (nB 0) 13) (lA (nB 0) 13))) (.node (nB 0) (.node (nB 0) (lA (nB 0) 13) (lA (nB 0) 13)) (.node (nB 0) (lA (nB 0) 13) (lA (nB 0)
  13)))) (.node (nB 0) (.node (nB 0) (.node (nB 0) (lA (nB 0) 13) (lA (nB 0) 13)) (.node (nB 0) (lA (nB 0) 13) (lA (nB 0) 13))) (.node (nB 0) (.node (nB 0) (lA (nB 0) 13) (lA (nB 0)
  13)) (.node (nB 0) (lA (nB 0) 13) (fA 14))))) (.node (nB 0) (.node (nB 0) (.node (nB 0) (.node (nB 0) (lA (nB 0) 13) (lA (nB 0) 13)) (.node (nB 0) (lA (nB 0) 13) (lA (nB 0) 13)))
  (.node (nB 0) (.node (nB 0) (lA (nB 0) 13) (lA (nB 0) 13)) (.node (nB 0) (lA (nB 0) 13) (fA 14)))) (.node (nB 0) (.node (nB 0) (.node (nB 0) (lA (nB 0) 13) (lA (nB 0) 13)) (.node
  (nB 0) (lA (nB 0) 13) (lA (nB 0) 13))) (.node (nB 0) (.node (nB 0) (lA (nB 0) 13) (lA (nB 0) 13)) (.node (nB 0) (lA (nB 0) 13) (fA 14)))))) (.node (nB 0) (.node (nB 0) (.node (nB
  0) (.node (nB 0) (.node (nB 0) (lA (nB 0) 13) (lA (nB 0) 13)) (.node (nB 0) (lA (nB 0) 13) (lA (nB 0) 13))) (.node (nB 0) (.node (nB 0) (lA (nB 0) 13) (lA (nB 0) 13)) (.node (nB 0)
  (lA (nB 0) 13) (fA 14)))) (.node (nB 0) (.node (nB 0) (.node (nB 0) (lA (nB 0) 13) (lA (nB 0) 13)) (.node (nB 0) (lA (nB 0) 13) (lA (nB 0) 13))) (.node (nB 0) (.node (nB 0) (lA (nB
  0) 13) (lA (nB 0) 13)) (.node (nB 0) (lA (nB 0) 13) (fA 14))))) (.node (nB 0) (.node (nB 0) (.node (nB 0) (.node (nB 0) (lA (nB 0) 13) (lA (nB 0) 13)) (.node (nB 0) (lA (nB 0) 13)
  (lA (nB 0) 13))) (.node (nB 0) (.node (nB 0) (lA (nB 0) 13) (lA (nB 0) 13)) (.node (nB 0) (lA (nB 0) 13) (fA 14)))) (.node (nB 0) (.node (nB 0) (.node (nB 0) (lA (nB 0) 13) (lA (nB
  0) 13)) (.node (nB 0) (lA (nB 0) 13) (lA (nB 0) 13))) (.node (nB 0) (.node (nB 0) (lA (nB 0) 13) (lA (nB 0) 13)) (.node (nB 0) (lA (nB 0) 13) (fA 14)))))))) (.node (nB 0) (.node
  (nB 0) (.node (nB 0) (.node (nB 0) (.node (nB 0) (.node (nB 0) (.node (nB 0) (lA (nB 0) 13) (lA (nB 0) 13)) (.node (nB 0) (lA (nB 0) 13) (lA (nB 0) 13))) (.node (nB 0) (.node (nB
  0) (lA (nB 0) 13) (lA (nB 0) 13)) (.node (nB 0) (lA (nB 0) 13) (lA (nB 0) 13)))) (.node (nB 0) (.node (nB 0) (.node (nB 0) (lA (nB 86) 13) (lA (nB 0) 13)) (.node (nB 0) (lA (nB 0)
  13) (lA (nB 0) 13))) (.node (nB 0) (.node (nB 0) (lA (nB 0) 13) (lA (nB 0) 13)) (.node (nB 0) (lA (nB 0) 13) (fA 14))))) (.node (nB 0) (.node (nB 0) (.node (nB 0) (.node (nB 0) (lA
  (nB 0) 13) (lA (nB 0) 13)) (.node (nB 0) (lA (nB 0) 13) (lA (nB 0) 13))) (.node (nB 0) (.node (nB 0) (lA (nB 0) 13) (lA (nB 0) 13)) (.node (nB 0) (lA (nB 0) 13) (fA 14)))) (.node
  (nB 0) (.node (nB 0) (.node (nB 0) (lA (nB 0) 13) (lA (nB 0) 13)) (.node (nB 0) (lA (nB 0) 13) (lA (nB 0) 13))) (.node (nB 0) (.node (nB 0) (lA (nB 0) 13) (lA (nB 0) 13)) (.node
  (nB 0) (lA (nB 0) 13) (fA 14)))))) (.node (nB 0) (.node (nB 0) (.node (nB 0) (.node (nB 0) (.node (nB 0) (lA (nB 0) 13) (lA (nB 0) 13)) (.node (nB 0) (lA (nB 0) 13) (lA (nB 0)
  13))) (.node (nB 0) (.node (nB 0) (lA (nB 0) 13) (lA (nB 0) 13)) (.node (nB 0) (lA (nB 0) 13) (lA (nB 0) 13)))) (.node (nB 0) (.node (nB 0) (.node (nB 0) (lA (nB 0) 13) (lA (nB 0)
  13)) (.node (nB 0) (lA (nB 0) 13) (lA (nB 0) 13))) (.node (nB 0) (.node (nB 0) (lA (nB 0) 13) (lA (nB 0) 13)) (.node (nB 0) (lA (nB 0) 13) (fA 14))))) (.node (nB 0) (.node (nB 0)
  (.node (nB 0) (.node (nB 0) (lA (nB 0) 13) (lA (nB 0) 13)) (.node (nB 0) (lA (nB 0) 13) (lA (nB 0) 13))) (.node (nB 0) (.node (nB 0) (lA (nB 0) 13) (lA (nB 0) 13)) (.node (nB 0)
  (lA (nB 0) 13) (fA 14)))) (.node (nB 0) (.node (nB 0) (.node (nB 0) (lA (nB 0) 13) (lA (nB 0) 13)) (.node (nB 0) (lA (nB 0) 13) (lA (nB 0) 13))) (.node (nB 0) (.node (nB 0) (lA (nB
  0) 13) (lA (nB 0) 13)) (.node (nB 0) (lA (nB 0) 13) (fA 14))))))) (.node (nB 255) (.node (nB 0) (.node (nB 0) (.node (nB 0) (.node (nB 0) (.node (nB 0) (lA (nB 0) 13) (lA (nB 0)
  13)) (.node (nB 0) (lA (nB 0) 13) (lA (nB 0) 13))) (.node (nB 0) (.node (nB 0) (lA (nB 0) 13) (lA (nB 0) 13)) (.node (nB 0) (lA (nB 0) 13) (lA (nB 0) 13)))) (.node (nB 0) (.node
  (nB 0) (.node (nB 0) (lA (nB 0) 13) (lA (nB 0) 13)) (.node (nB 0) (lA (nB 0) 13) (lA (nB 0) 13))) (.node (nB 0) (.node (nB 0) (lA (nB 0) 13) (lA (nB 0) 13)) (.node (nB 0) (lA (nB
  0) 13) (fA 14))))) (.node (nB 0) (.node (nB 0) (.node (nB 0) (.node (nB 0) (lA (nB 0) 13) (lA (nB 0) 13)) (.node (nB 0) (lA (nB 0) 13) (lA (nB 0) 13))) (.node (nB 0) (.node (nB 0)
  (lA (nB 0) 13) (lA (nB 0) 13)) (.node (nB 0) (lA (nB 0) 13) (fA 14)))) (.node (nB 0) (.node (nB 0) (.node (nB 0) (lA (nB 0) 13) (lA (nB 0) 13)) (.node (nB 0) (lA (nB 0) 13) (lA (nB
  0) 13))) (.node (nB 0) (.node (nB 0) (lA (nB 0) 13) (lA (nB 0) 13)) (.node (nB 0) (lA (nB 0) 13) (fA 14)))))) (.node (nB 0) (.node (nB 0) (.node (nB 0) (.node (nB 0) (.node (nB 0)
  (lA (nB 0) 13) (lA (nB 0) 13)) (.node (nB 0) (lA (nB 0) 13) (lA (nB 0) 13))) (.node (nB 0) (.node (nB 0) (lA (nB 0) 13) (lA (nB 0) 13)) (.node (nB 0) (lA (nB 0) 13) (fA 14))))
  (.node (nB 0) (.node (nB 0) (.node (nB 0) (lA (nB 0) 13) (lA (nB 0) 13)) (.node (nB 0) (lA (nB 0) 13) (lA (nB 0) 13))) (.node (nB 0) (.node (nB 0) (lA (nB 0) 13) (lA (nB 0) 13))
  (.node (nB 0) (lA (nB 0) 13) (fA 14))))) (.node (nB 0) (.node (nB 0) (.node (nB 0) (.node (nB 0) (lA (nB 0) 13) (lA (nB 0) 13)) (.node (nB 0) (lA (nB 0) 13) (lA (nB 0) 13))) (.node
  (nB 0) (.node (nB 0) (lA (nB 0) 13) (lA (nB 0) 13)) (.node (nB 0) (lA (nB 0) 13) (fA 14)))) (.node (nB 0) (.node (nB 0) (.node (nB 0) (lA (nB 0) 13) (lA (nB 0) 13)) (.node (nB 0)
  (lA (nB 0) 13) (lA (nB 0) 13))) (.node (nB 0) (.node (nB 0) (lA (nB 0) 13) (lA (nB 0) 13)) (.node (nB 0) (lA (nB 0) 13) (fA 14)))))))))) (.node (nB 83) (.node (nB 70) (.node (nB 0)
  (.node (nB 64) (.node (nB 0) (.node (nB 0) (.node (nB 0) (.node (nB 0) (.node (nB 0) (lA (nB 3) 13) (lA (nB 0) 13)) (.node (nB 0) (lA (nB 0) 13) (lA (nB 0) 13))) (.node (nB 0)
  (.node (nB 0) (lA (nB 0) 13) (lA (nB 0) 13)) (.node (nB 0) (lA (nB 0) 13) (lA (nB 0) 13)))) (.node (nB 0) (.node (nB 0) (.node (nB 0) (lA (nB 0) 13) (lA (nB 0) 13)) (.node (nB 0)
  (lA (nB 0) 13) (lA (nB 0) 13))) (.node (nB 0) (.node (nB 0) (lA (nB 0) 13) (lA (nB 0) 13)) (.node (nB 0) (lA (nB 0) 13) (fA 14))))) (.node (nB 0) (.node (nB 0) (.node (nB 0) (.node
  (nB 0) (lA (nB 0) 13) (lA (nB 0) 13)) (.node (nB 0) (lA (nB 0) 13) (lA (nB 0) 13))) (.node (nB 0) (.node (nB 0) (lA (nB 0) 13) (lA (nB 0) 13)) (.node (nB 0) (lA (nB 0) 13) (fA
  14)))) (.node (nB 0) (.node (nB 0) (.node (nB 0) (lA (nB 64) 13) (lA (nB 0) 13)) (.node (nB 0) (lA (nB 0) 13) (lA (nB 0) 13))) (.node (nB 0) (.node (nB 0) (lA (nB 0) 13) (lA (nB 0)
  13)) (.node (nB 0) (lA (nB 0) 13) (fA 14)))))) (.node (nB 0) (.node (nB 0) (.node (nB 0) (.node (nB 0) (.node (nB 0) (lA (nB 0) 13) (lA (nB 0) 13)) (.node (nB 0) (lA (nB 0) 13) (lA
  (nB 0) 13))) (.node (nB 0) (.node (nB 0) (lA (nB 0) 13) (lA (nB 0) 13)) (.node (nB 0) (lA (nB 0) 13) (lA (nB 0) 13)))) (.node (nB 0) (.node (nB 0) (.node (nB 0) (lA (nB 0) 13) (lA
  (nB 0) 13)) (.node (nB 0) (lA (nB 0) 13) (lA (nB 0) 13))) (.node (nB 0) (.node (nB 0) (lA (nB 0) 13) (lA (nB 0) 13)) (.node (nB 0) (lA (nB 0) 13) (fA 14))))) (.node (nB 0) (.node
  (nB 0) (.node (nB 0) (.node (nB 0) (lA (nB 0) 13) (lA (nB 0) 13)) (.node (nB 0) (lA (nB 0) 13) (lA (nB 0) 13))) (.node (nB 0) (.node (nB 0) (lA (nB 0) 13) (lA (nB 0) 13)) (.node
  (nB 0) (lA (nB 0) 13) (fA 14)))) (.node (nB 0) (.node (nB 0) (.node (nB 0) (lA (nB 0) 13) (lA (nB 0) 13)) (.node (nB 0) (lA (nB 0) 13) (lA (nB 0) 13))) (.node (nB 0) (.node (nB 0)
  (lA (nB 0) 13) (lA (nB 0) 13)) (.node (nB 0) (lA (nB 0) 13) (fA 14))))))) (.node (nB 255) (.node (nB 0) (.node (nB 0) (.node (nB 0) (.node (nB 0) (.node (nB 0) (lA (nB 1) 13) (lA
  (nB 0) 13)) (.node (nB 0) (lA (nB 0) 13) (lA (nB 0) 13))) (.node (nB 0) (.node (nB 0) (lA (nB 0) 13) (lA (nB 0) 13)) (.node (nB 0) (lA (nB 0) 13) (lA (nB 0) 13)))) (.node (nB 0)
  (.node (nB 0) (.node (nB 0) (lA (nB 0) 13) (lA (nB 0) 13)) (.node (nB 0) (lA (nB 0) 13) (lA (nB 0) 13))) (.node (nB 0) (.node (nB 0) (lA (nB 0) 13) (lA (nB 0) 13)) (.node (nB 0)
  (lA (nB 0) 13) (fA 14))))) (.node (nB 0) (.node (nB 0) (.node (nB 0) (.node (nB 0) (lA (nB 0) 13) (lA (nB 0) 13)) (.node (nB 0) (lA (nB 0) 13) (lA (nB 0) 13))) (.node (nB 0) (.node
  (nB 0) (lA (nB 0) 13) (lA (nB 0) 13)) (.node (nB 0) (lA (nB 0) 13) (fA 14)))) (.node (nB 0) (.node (nB 0) (.node (nB 0) (lA (nB 0) 13) (lA (nB 0) 13)) (.node (nB 0) (lA (nB 0) 13)
  (lA (nB 0) 13))) (.node (nB 0) (.node (nB 0) (lA (nB 0) 13) (lA (nB 0) 13)) (.node (nB 0) (lA (nB 0) 13) (fA 14)))))) (.node (nB 0) (.node (nB 0) (.node (nB 0) (.node (nB 0) (.node
  (nB 0) (lA (nB 0) 13) (lA (nB 0) 13)) (.node (nB 0) (lA (nB 0) 13) (lA (nB 0) 13))) (.node (nB 0) (.node (nB 0) (lA (nB 0) 13) (lA (nB 0) 13)) (.node (nB 0) (lA (nB 0) 13) (fA
  14)))) (.node (nB 0) (.node (nB 0) (.node (nB 0) (lA (nB 0) 13) (lA (nB 0) 13)) (.node (nB 0) (lA (nB 0) 13) (lA (nB 0) 13))) (.node (nB 0) (.node (nB 0) (lA (nB 0) 13) (lA (nB 0)
  13)) (.node (nB 0) (lA (nB 0) 13) (fA 14))))) (.node (nB 0) (.node (nB 0) (.node (nB 0) (.node (nB 0) (lA (nB 0) 13) (lA (nB 0) 13)) (.node (nB 0) (lA (nB 0) 13) (lA (nB 0) 13)))
  (.node (nB 0) (.node (nB 0) (lA (nB 0) 13) (lA (nB 0) 13)) (.node (nB 0) (lA (nB 0) 13) (fA 14)))) (.node (nB 0) (.node (nB 0) (.node (nB 0) (lA (nB 0) 13) (lA (nB 0) 13)) (.node
  (nB 0) (lA (nB 0) 13) (lA (nB 0) 13))) (.node (nB 0) (.node (nB 0) (lA (nB 0) 13) (lA (nB 0) 13)) (.node (nB 0) (lA (nB 0) 13) (fA 14)))))))) (.node (nB 0) (.node (nB 0) (.node (nB
  0) (.node (nB 0) (.node (nB 0) (.node (nB 0) (.node (nB 0) (lA (nB 0) 13) (lA (nB 0) 13)) (.node (nB 0) (lA (nB 0) 13) (lA (nB 0) 13))) (.node (nB 0) (.node (nB 0) (lA (nB 0) 13)
  (lA (nB 0) 13)) (.node (nB 0) (lA (nB 0) 13) (lA (nB 0) 13)))) (.node (nB 0) (.node (nB 0) (.node (nB 0) (lA (nB 69) 13) (lA (nB 0) 13)) (.node (nB 0) (lA (nB 0) 13) (lA (nB 0)
  13))) (.node (nB 0) (.node (nB 0) (lA (nB 0) 13) (lA (nB 0) 13)) (.node (nB 0) (lA (nB 0) 13) (fA 14))))) (.node (nB 0) (.node (nB 0) (.node (nB 0) (.node (nB 0) (lA (nB 0) 13) (lA
  (nB 0) 13)) (.node (nB 0) (lA (nB 0) 13) (lA (nB 0) 13))) (.node (nB 0) (.node (nB 0) (lA (nB 0) 13) (lA (nB 0) 13)) (.node (nB 0) (lA (nB 0) 13) (fA 14)))) (.node (nB 0) (.node
  (nB 0) (.node (nB 0) (lA (nB 0) 13) (lA (nB 0) 13)) (.node (nB 0) (lA (nB 0) 13) (lA (nB 0) 13))) (.node (nB 0) (.node (nB 0) (lA (nB 0) 13) (lA (nB 0) 13)) (.node (nB 0) (lA (nB
  0) 13) (fA 14)))))) (.node (nB 0) (.node (nB 0) (.node (nB 0) (.node (nB 0) (.node (nB 0) (lA (nB 0) 13) (lA (nB 0) 13)) (.node (nB 0) (lA (nB 0) 13) (lA (nB 0) 13))) (.node (nB 0)
  (.node (nB 0) (lA (nB 0) 13) (lA (nB 0) 13)) (.node (nB 0) (lA (nB 0) 13) (lA (nB 0) 13)))) (.node (nB 0) (.node (nB 0) (.node (nB 0) (lA (nB 0) 13) (lA (nB 0) 13)) (.node (nB 0)
  (lA (nB 0) 13) (lA (nB 0) 13))) (.node (nB 0) (.node (nB 0) (lA (nB 0) 13) (lA (nB 0) 13)) (.node (nB 0) (lA (nB 0) 13) (fA 14))))) (.node (nB 0) (.node (nB 0) (.node (nB 0) (.node
  (nB 0) (lA (nB 0) 13) (lA (nB 0) 13)) (.node (nB 0) (lA (nB 0) 13) (lA (nB 0) 13))) (.node (nB 0) (.node (nB 0) (lA (nB 0) 13) (lA (nB 0) 13)) (.node (nB 0) (lA (nB 0) 13) (fA
  14)))) (.node (nB 0) (.node (nB 0) (.node (nB 0) (lA (nB 0) 13) (lA (nB 0) 13)) (.node (nB 0) (lA (nB 0) 13) (lA (nB 0) 13))) (.node (nB 0) (.node (nB 0) (lA (nB 0) 13) (lA (nB 0)
  13)) (.node (nB 0) (lA (nB 0) 13) (fA 14))))))) (.node (nB 255) (.node (nB 0) (.node (nB 0) (.node (nB 0) (.node (nB 0) (.node (nB 0) (lA (nB 0) 13) (lA (nB 0) 13)) (.node (nB 0)
  (lA (nB 0) 13) (lA (nB 0) 13))) (.node (nB 0) (.node (nB 0) (lA (nB 0) 13) (lA (nB 0) 13)) (.node (nB 0) (lA (nB 0) 13) (lA (nB 0) 13)))) (.node (nB 0) (.node (nB 0) (.node (nB 0)
  (lA (nB 0) 13) (lA (nB 0) 13)) (.node (nB 0) (lA (nB 0) 13) (lA (nB 0) 13))) (.node (nB 0) (.node (nB 0) (lA (nB 0) 13) (lA (nB 0) 13)) (.node (nB 0) (lA (nB 0) 13) (fA 14)))))
  (.node (nB 0) (.node (nB 0) (.node (nB 0) (.node (nB 0) (lA (nB 0) 13) (lA (nB 0) 13)) (.node (nB 0) (lA (nB 0) 13) (lA (nB 0) 13))) (.node (nB 0) (.node (nB 0) (lA (nB 0) 13) (lA
  (nB 0) 13)) (.node (nB 0) (lA (nB 0) 13) (fA 14)))) (.node (nB 0) (.node (nB 0) (.node (nB 0) (lA (nB 0) 13) (lA (nB 0) 13)) (.node (nB 0) (lA (nB 0) 13) (lA (nB 0) 13))) (.node
  (nB 0) (.node (nB 0) (lA (nB 0) 13) (lA (nB 0) 13)) (.node (nB 0) (lA (nB 0) 13) (fA 14)))))) (.node (nB 0) (.node (nB 0) (.node (nB 0) (.node (nB 0) (.node (nB 0) (lA (nB 0) 13)
  (lA (nB 0) 13)) (.node (nB 0) (lA (nB 0) 13) (lA (nB 0) 13))) (.node (nB 0) (.node (nB 0) (lA (nB 0) 13) (lA (nB 0) 13)) (.node (nB 0) (lA (nB 0) 13) (fA 14)))) (.node (nB 0)
  (.node (nB 0) (.node (nB 0) (lA (nB 0) 13) (lA (nB 0) 13)) (.node (nB 0) (lA (nB 0) 13) (lA (nB 0) 13))) (.node (nB 0) (.node (nB 0) (lA (nB 0) 13) (lA (nB 0) 13)) (.node (nB 0)
  (lA (nB 0) 13) (fA 14))))) (.node (nB 0) (.node (nB 0) (.node (nB 0) (.node (nB 0) (lA (nB 0) 13) (lA (nB 0) 13)) (.node (nB 0) (lA (nB 0) 13) (lA (nB 0) 13))) (.node (nB 0) (.node
  (nB 0) (lA (nB 0) 13) (lA (nB 0) 13)) (.node (nB 0) (lA (nB 0) 13) (fA 14)))) (.node (nB 0) (.node (nB 0) (.node (nB 0) (lA (nB 0) 13) (lA (nB 0) 13)) (.node (nB 0) (lA (nB 0) 13)
  (lA (nB 0) 13))) (.node (nB 0) (.node (nB 0) (lA (nB 0) 13) (lA (nB 0) 13)) (.node (nB 0) (lA (nB 0) 13) (fA 14))))))))) (.node (nB 73) (.node (nB 0) (.node (nB 0) (.node (nB 0)
  (.node (nB 0) (.node (nB 0) (.node (nB 0) (.node (nB 0) (lA (nB 0) 13) (lA (nB 0) 13)) (.node (nB 0) (lA (nB 0) 13) (lA (nB 0) 13))) (.node (nB 0) (.node (nB 0) (lA (nB 0) 13) (lA
  (nB 0) 13)) (.node (nB 0) (lA (nB 0) 13) (lA (nB 0) 13)))) (.node (nB 0) (.node (nB 0) (.node (nB 0) (lA (nB 0) 13) (lA (nB 0) 13)) (.node (nB 0) (lA (nB 0) 13) (lA (nB 0) 13)))
  (.node (nB 0) (.node (nB 0) (lA (nB 0) 13) (lA (nB 0) 13)) (.node (nB 0) (lA (nB 0) 13) (fA 14))))) (.node (nB 0) (.node (nB 0) (.node (nB 0) (.node (nB 0) (lA (nB 0) 13) (lA (nB
  0) 13)) (.node (nB 0) (lA (nB 0) 13) (lA (nB 0) 13))) (.node (nB 0) (.node (nB 0) (lA (nB 0) 13) (lA (nB 0) 13)) (.node (nB 0) (lA (nB 0) 13) (fA 14)))) (.node (nB 0) (.node (nB 0)
  (.node (nB 0) (lA (nB 0) 13) (lA (nB 0) 13)) (.node (nB 0) (lA (nB 0) 13) (lA (nB 0) 13))) (.node (nB 0) (.node (nB 0) (lA (nB 0) 13) (lA (nB 0) 13)) (.node (nB 0) (lA (nB 0) 13)
  (fA 14)))))) (.node (nB 0) (.node (nB 0) (.node (nB 0) (.node (nB 0) (.node (nB 0) (lA (nB 0) 13) (lA (nB 0) 13)) (.node (nB 0) (lA (nB 0) 13) (lA (nB 0) 13))) (.node (nB 0) (.node
  (nB 0) (lA (nB 0) 13) (lA (nB 0) 13)) (.node (nB 0) (lA (nB 0) 13) (lA (nB 0) 13)))) (.node (nB 0) (.node (nB 0) (.node (nB 0) (lA (nB 0) 13) (lA (nB 0) 13)) (.node (nB 0) (lA (nB
  0) 13) (lA (nB 0) 13))) (.node (nB 0) (.node (nB 0) (lA (nB 0) 13) (lA (nB 0) 13)) (.node (nB 0) (lA (nB 0) 13) (fA 14))))) (.node (nB 0) (.node (nB 0) (.node (nB 0) (.node (nB 0)
  (lA (nB 0) 13) (lA (nB 0) 13)) (.node (nB 0) (lA (nB 0) 13) (lA (nB 0) 13))) (.node (nB 0) (.node (nB 0) (lA (nB 0) 13) (lA (nB 0) 13)) (.node (nB 0) (lA (nB 0) 13) (fA 14))))
  (.node (nB 0) (.node (nB 0) (.node (nB 0) (lA (nB 0) 13) (lA (nB 0) 13)) (.node (nB 0) (lA (nB 0) 13) (lA (nB 0) 13))) (.node (nB 0) (.node (nB 0) (lA (nB 0) 13) (lA (nB 0) 13))
  (.node (nB 0) (lA (nB 0) 13) (fA 14))))))) (.node (nB 255) (.node (nB 0) (.node (nB 0) (.node (nB 0) (.node (nB 0) (.node (nB 0) (lA (nB 0) 13) (lA (nB 0) 13)) (.node (nB 0) (lA
  (nB 0) 13) (lA (nB 0) 13))) (.node (nB 0) (.node (nB 0) (lA (nB 0) 13) (lA (nB 0) 13)) (.node (nB 0) (lA (nB 0) 13) (lA (nB 0) 13)))) (.node (nB 0) (.node (nB 0) (.node (nB 0) (lA
  (nB 0) 13) (lA (nB 0) 13)) (.node (nB 0) (lA (nB 0) 13) (lA (nB 0) 13))) (.node (nB 0) (.node (nB 0) (lA (nB 0) 13) (lA (nB 0) 13)) (.node (nB 0) (lA (nB 0) 13) (fA 14))))) (.node
  (nB 0) (.node (nB 0) (.node (nB 0) (.node (nB 0) (lA (nB 0) 13) (lA (nB 0) 13)) (.node (nB 0) (lA (nB 0) 13) (lA (nB 0) 13))) (.node (nB 0) (.node (nB 0) (lA (nB 0) 13) (lA (nB 0)
  13)) (.node (nB 0) (lA (nB 0) 13) (fA 14)))) (.node (nB 0) (.node (nB 0) (.node (nB 0) (lA (nB 0) 13) (lA (nB 0) 13)) (.node (nB 0) (lA (nB 0) 13) (lA (nB 0) 13))) (.node (nB 0)
  (.node (nB 0) (lA (nB 0) 13) (lA (nB 0) 13)) (.node (nB 0) (lA (nB 0) 13) (fA 14)))))) (.node (nB 0) (.node (nB 0) (.node (nB 0) (.node (nB 0) (.node (nB 0) (lA (nB 0) 13) (lA (nB
  0) 13)) (.node (nB 0) (lA (nB 0) 13) (lA (nB 0) 13))) (.node (nB 0) (.node (nB 0) (lA (nB 0) 13) (lA (nB 0) 13)) (.node (nB 0) (lA (nB 0) 13) (fA 14)))) (.node (nB 0) (.node (nB 0)
  (.node (nB 0) (lA (nB 0) 13) (lA (nB 0) 13)) (.node (nB 0) (lA (nB 0) 13) (lA (nB 0) 13))) (.node (nB 0) (.node (nB 0) (lA (nB 0) 13) (lA (nB 0) 13)) (.node (nB 0) (lA (nB 0) 13)
  (fA 14))))) (.node (nB 0) (.node (nB 0) (.node (nB 0) (.node (nB 0) (lA (nB 0) 13) (lA (nB 0) 13)) (.node (nB 0) (lA (nB 0) 13) (lA (nB 0) 13))) (.node (nB 0) (.node (nB 0) (lA (nB
  0) 13) (lA (nB 0) 13)) (.node (nB 0) (lA (nB 0) 13) (fA 14)))) (.node (nB 0) (.node (nB 0) (.node (nB 0) (lA (nB 0) 13) (lA (nB 0) 13)) (.node (nB 0) (lA (nB 0) 13) (lA (nB 0)
  13))) (.node (nB 0) (.node (nB 0) (lA (nB 0) 13) (lA (nB 0) 13)) (.node (nB 0) (lA (nB 0) 13) (fA 14)))))))) (.node (nB 0) (.node (nB 0) (.node (nB 0) (.node (nB 0) (.node (nB 0)
  (.node (nB 0) (.node (nB 0) (lA (nB 0) 13) (lA (nB 0) 13)) (.node (nB 0) (lA (nB 0) 13) (lA (nB 0) 13))) (.node (nB 0) (.node (nB 0) (lA (nB 0) 13) (lA (nB 0) 13)) (.node (nB 0)
  (lA (nB 0) 13) (lA (nB 0) 13)))) (.node (nB 0) (.node (nB 0) (.node (nB 0) (lA (nB 69) 13) (lA (nB 0) 13)) (.node (nB 0) (lA (nB 0) 13) (lA (nB 0) 13))) (.node (nB 0) (.node (nB 0)
  (lA (nB 0) 13) (lA (nB 0) 13)) (.node (nB 0) (lA (nB 0) 13) (fA 14))))) (.node (nB 0) (.node (nB 0) (.node (nB 0) (.node (nB 0) (lA (nB 0) 13) (lA (nB 0) 13)) (.node (nB 0) (lA (nB
  0) 13) (lA (nB 0) 13))) (.node (nB 0) (.node (nB 0) (lA (nB 0) 13) (lA (nB 0) 13)) (.node (nB 0) (lA (nB 0) 13) (fA 14)))) (.node (nB 0) (.node (nB 0) (.node (nB 0) (lA (nB 0) 13)
  (lA (nB 0) 13)) (.node (nB 0) (lA (nB 0) 13) (lA (nB 0) 13))) (.node (nB 0) (.node (nB 0) (lA (nB 0) 13) (lA (nB 0) 13)) (.node (nB 0) (lA (nB 0) 13) (fA 14)))))) (.node (nB 0)
  (.node (nB 0) (.node (nB 0) (.node (nB 0) (.node (nB 0) (lA (nB 0) 13) (lA (nB 0) 13)) (.node (nB 0) (lA (nB 0) 13) (lA (nB 0) 13))) (.node (nB 0) (.node (nB 0) (lA (nB 0) 13) (lA
  (nB 0) 13)) (.node (nB 0) (lA (nB 0) 13) (lA (nB 0) 13)))) (.node (nB 0) (.node (nB 0) (.node (nB 0) (lA (nB 0) 13) (lA (nB 0) 13)) (.node (nB 0) (lA (nB 0) 13) (lA (nB 0) 13)))
  (.node (nB 0) (.node (nB 0) (lA (nB 0) 13) (lA (nB 0) 13)) (.node (nB 0) (lA (nB 0) 13) (fA 14))))) (.node (nB 0) (.node (nB 0) (.node (nB 0) (.node (nB 0) (lA (nB 0) 13) (lA (nB
  0) 13)) (.node (nB 0) (lA (nB 0) 13) (lA (nB 0) 13))) (.node (nB 0) (.node (nB 0) (lA (nB 0) 13) (lA (nB 0) 13)) (.node (nB 0) (lA (nB 0) 13) (fA 14)))) (.node (nB 0) (.node (nB 0)
  (.node (nB 0) (lA (nB 0) 13) (lA (nB 0) 13)) (.node (nB 0) (lA (nB 0) 13) (lA (nB 0) 13))) (.node (nB 0) (.node (nB 0) (lA (nB 0) 13) (lA (nB 0) 13)) (.node (nB 0) (lA (nB 0) 13)
  (fA 14))))))) (.node (nB 255) (.node (nB 0) (.node (nB 0) (.node (nB 0) (.node (nB 0) (.node (nB 0) (lA (nB 0) 13) (lA (nB 0) 13)) (.node (nB 0) (lA (nB 0) 13) (lA (nB 0) 13)))
  (.node (nB 0) (.node (nB 0) (lA (nB 0) 13) (lA (nB 0) 13)) (.node (nB 0) (lA (nB 0) 13) (lA (nB 0) 13)))) (.node (nB 0) (.node (nB 0) (.node (nB 0) (lA (nB 0) 13) (lA (nB 0) 13))
  (.node (nB 0) (lA (nB 0) 13) (lA (nB 0) 13))) (.node (nB 0) (.node (nB 0) (lA (nB 0) 13) (lA (nB 0) 13)) (.node (nB 0) (lA (nB 0) 13) (fA 14))))) (.node (nB 0) (.node (nB 0) (.node
  (nB 0) (.node (nB 0) (lA (nB 0) 13) (lA (nB 0) 13)) (.node (nB 0) (lA (nB 0) 13) (lA (nB 0) 13))) (.node (nB 0) (.node (nB 0) (lA (nB 0) 13) (lA (nB 0) 13)) (.node (nB 0) (lA (nB
  0) 13) (fA 14)))) (.node (nB 0) (.node (nB 0) (.node (nB 0) (lA (nB 0) 13) (lA (nB 0) 13)) (.node (nB 0) (lA (nB 0) 13) (lA (nB 0) 13))) (.node (nB 0) (.node (nB 0) (lA (nB 0) 13)
  (lA (nB 0) 13)) (.node (nB 0) (lA (nB 0) 13) (fA 14)))))) (.node (nB 0) (.node (nB 0) (.node (nB 0) (.node (nB 0) (.node (nB 0) (lA (nB 0) 13) (lA (nB 0) 13)) (.node (nB 0) (lA (nB
  0) 13) (lA (nB 0) 13))) (.node (nB 0) (.node (nB 0) (lA (nB 0) 13) (lA (nB 0) 13)) (.node (nB 0) (lA (nB 0) 13) (fA 14)))) (.node (nB 0) (.node (nB 0) (.node (nB 0) (lA (nB 0) 13)
  (lA (nB 0) 13)) (.node (nB 0) (lA (nB 0) 13) (lA (nB 0) 13))) (.node (nB 0) (.node (nB 0) (lA (nB 0) 13) (lA (nB 0) 13)) (.node (nB 0) (lA (nB 0) 13) (fA 14))))) (.node (nB 0)
  (.node (nB 0) (.node (nB 0) (.node (nB 0) (lA (nB 0) 13) (lA (nB 0) 13)) (.node (nB 0) (lA (nB 0) 13) (lA (nB 0) 13))) (.node (nB 0) (.node (nB 0) (lA (nB 0) 13) (lA (nB 0) 13))
  (.node (nB 0) (lA (nB 0) 13) (fA 14)))) (.node (nB 0) (.node (nB 0) (.node (nB 0) (lA (nB 0) 13) (lA (nB 0) 13)) (.node (nB 0) (lA (nB 0) 13) (lA (nB 0) 13))) (.node (nB 0) (.node
  (nB 0) (lA (nB 0) 13) (lA (nB 0) 13)) (.node (nB 0) (lA (nB 0) 13) (fA 14))))))))))) false false) 10)) (fD 12))) (fD 14))) (fD 16)) (fD 17))) (.node .dead (fD 18) (.node .dead
  (.node .dead (.node .dead (fD 15) (.node .dead (fD 14) (.node .dead (.node .dead (.node .dead (lD o45 10) (fD 11)) (fD 12)) (fD 13)))) (fD 16)) (fD 17)))) (.node .dead (.node .dead
  (.node .dead (fD 17) (.node .dead (.node .dead (.node .dead (fD 14) (.node .dead (fD 13) (.node .dead (.node .dead (lD o1 10) (fD 11)) (fD 12)))) (fD 15)) (fD 16))) (.node .dead
  (fD 17) (.node .dead (fD 16) (.node .dead (.node .dead (fD 14) (.node .dead (.node .dead (.node .dead (lD (.cells 348 1 1 (lA .nilsl 23) true false) 10) (fD 11)) (fD 12)) (fD 13)))
  (fD 15))))) (fD 19)))))), 13608⟩,
  [.reg (opsAt Tryz.f170 [1, 1, 0, 1, 0, 0, 1, 1, 0, 0, 1, 0]) ((opsAt Tryz.f170 [1, 1, 0, 1, 0, 0, 1, 1, 0, 0, 1, 0]).toList.drop 2), .code
  (codeAt Tryz.f170 [1, 1, 0, 1, 0, 0, 1, 1, 0, 0, 1, 1]), .blk 1, .code (codeAt Tryz.f170 [1, 1, 0, 1, 0, 0, 1, 1, 1]), .lp (codeAt Tryz.f170 [1, 1, 0, 1, 0, 0]), .blk 0, .code
  (codeAt Tryz.f170 [1, 1, 1])]⟩
/-- where the run stands at the end of part 31 -/
noncomputable def s31 : St :=
  ⟨⟨122, 8, [], .normal, none,
  [o60,
    o56,
    o55,
    o58,
    o49,
    o57,
    o61,
    o59,
    o48,
    o46,
    o6]⟩,
  .run,
  (.node (.ptr 9030 0) (.node undefV (.node
  (.ptr 9030 0) (lU (.sl 14029 0 0 3072 (.u 14029 0)) 20) (fU 21)) (lU (.ptr 9030 2) 21)) (.node (.sl 14029 0 0 3072 (.u 14029 0)) (lU (.ptr 9030 0) 21) (lU (.sl 12877 0 0 384 (.u
  12877 0)) 21))),
  ⟨(.node (.cells 31 10 10 (.node .nil (.node (nI 0) (.node (nI 0) (lA .nil 20) (fA 21)) (.node (.bool false) (lA .nilfn 20) (fA 21))) (.node (nI 0) (.node .nilsl
  (lA .nil 20) (fA 21)) (lA .nilsl 21))) true false) (.node .dead (.node o1 (.node (.cells 5 1 64 (fB 24) true false) (.node .dead (.node .dead (.node .dead (fD 17) (lD (.map [] 0)
  16)) (fD 18)) (.node .dead (fD 18) (.node .dead (fD 17) (.node .dead (fD 16) (.node .dead (.node .dead (fD 14) (.node .dead (.node .dead (.node .dead (lD (.cells 348 1 1 (lA (.sl
  8989 0 0 4 (.u 8989 0)) 23) true false) 10) (fD 11)) (fD 12)) (fD 13))) (fD 15)))))) (.node .dead (.node .dead (.node .dead (fD 17) (.node .dead (.node .dead (.node .dead (fD 14)
  (.node .dead (.node .dead (.node .dead (fD 11) (lD (.cells 49 10 10 (.node (nI 7) (.node (nI 0) (.node (nU 0) (lA (nU 0) 20) (fA 21)) (.node (nI 0) (lA .nilsl 20) (fA 21))) (.node
  (nI 0) (.node (nU 0) (lA (nI 0) 20) (fA 21)) (lA (.str (bs [])) 21))) true false) 10)) (fD 12)) (fD 13))) (fD 15)) (.node .dead (fD 15) (lD o15 14)))) (fD 18)) (.node .dead (fD 18)
  (.node .dead (.node .dead (.node .dead (fD 15) (.node .dead (fD 14) (.node .dead (.node .dead (.node .dead (lD (.cells 211 3 3 (.node (.ptr 192 0) (lA (.ptr 8938 0) 22) (lA (.ptr
  9014 0) 22)) true false) 10) (fD 11)) (fD 12)) (fD 13)))) (fD 16)) (fD 17))))) (.node .dead (.node .dead (.node .dead (fD 18) (lD (.cells 99 3 3 (.node .nilsl (lA .nilsl 22) (lA
  (.bool false) 22)) false false) 17)) (fD 19)) (.node .dead (.node .dead (.node .dead (fD 17) (.node .dead (.node .dead (.node .dead (fD 14) (.node .dead (.node .dead (.node .dead
  (fD 11) (lD (.cells 49 10 10 (.node (nI 7) (.node (nI 0) (.node (nU 0) (lA (nU 0) 20) (fA 21)) (.node (nI 0) (lA .nilsl 20) (fA 21))) (.node (nI 0) (.node (nU 0) (lA (nI 0) 20) (fA
  21)) (lA (.str (bs [])) 21))) true false) 10)) (fD 12)) (.node .dead (.node .dead (lD (.cells 242 9 9 (.node (.ptr 9015 0) (.node (.ptr 9030 0) (.node (.fn (.func 126) [(.ptr 9803
  0)] []) (lA (.bool false) 20) (fA 21)) (lA .nilsl 21)) (.node .nil (.node .nilsl (lA (nI 0) 20) (fA 21)) (lA .nilsl 21))) true false) 10) (fD 11)) (fD 12)))) (fD 15)) (fD 16))) (fD
  18)) (.node (.cells 5 1 64 (fB 24) true false) (fD 18) (.node .dead (.node .dead (.node .dead (fD 15) (.node .dead (fD 14) (.node .dead (.node .dead (.node .dead (lD o44 10) (fD
  11)) (fD 12)) (fD 13)))) (fD 16)) (fD 17)))))) (.node .dead (.node .dead (.node .dead (lD (.cells 5 1 64 (fB 24) true false) 18) (.node .dead (.node .dead (fD 17) (.node .dead
  (.node .dead (fD 15) (.node .dead (fD 14) (lD (.cells 106 12 12 (.node (nI 1) (.node (nI 0) (.node (nI 0) (lA (.str (bs [])) 20) (lA (nI 0) 20)) (.node (nU 0) (lA (nI 0) 20) (fA
  21))) (.node (nI 0) (.node (nU 0) (lA (nU 0) 20) (fA 21)) (.node (nI 0) (lA .nilsl 20) (fA 21)))) true false) 13))) (fD 16))) (fD 18))) (.node .dead (.node .dead (.node .dead (fD
  17) (.node .dead (.node .dead (.node .dead (fD 14) (.node .dead (.node .dead (.node .dead (fD 11) (lD (.map [⟨(nI 1), (.fn (.func 33) [] []), 0⟩, ⟨(nI 2), (.fn (.func 34) [] []),
  1⟩, ⟨(nI 3), (.fn (.func 35) [] []), 2⟩, ⟨(nI 4), (.fn (.func 36) [] []), 3⟩, ⟨(nI 5), (.fn (.func 37) [] []), 4⟩, ⟨(nI 6), (.fn (.func 38) [] []), 5⟩, ⟨(nI 7), (.fn (.func 39) []
  []), 6⟩] 7) 10)) (fD 12)) (fD 13))) (fD 15)) (fD 16))) (.node .dead (fD 17) (.node .dead (fD 16) (.node .dead (.node .dead (fD 14) (.node .dead (.node .dead (.node .dead (lD (.map
  [⟨(nU 1088), (nI 2), 0⟩] 1) 10) (fD 11)) (fD 12)) (fD 13))) (fD 15))))) (.node .dead (fD 18) (.node .dead (.node .dead (.node .dead (fD 15) (.node .dead (fD 14) (.node .dead (.node
  .dead (.node .dead (lD (.cells 198 4 4 (.node (.ptr 9015 0) (.node (.sl 9016 0 0 1 (.k 1)) (lA (nI 0) 21) (fA 22)) (lA .nilsl 22)) true false) 10) (fD 11)) (fD 12)) (fD 13)))) (fD
  16)) (fD 17))))) (.node .dead (.node .dead (.node .dead (.node .dead (fD 17) (.node .dead (fD 16) (.node .dead (fD 15) (lD o15 14)))) (fD 18)) (.node .dead (lD (.cells 31 10 10
  (.node (.ptr 61 0) (.node (nI 1) (.node (nI 0) (lA .nil 20) (fA 21)) (.node (.bool false) (lA .nilfn 20) (fA 21))) (.node (nI 1) (.node .nilsl (lA .nil 20) (fA 21)) (lA .nilsl
  21))) true false) 17) (.node .dead (.node .dead (.node .dead (fD 15) (.node .dead (fD 14) (.node .dead (.node .dead (.node .dead (lD (.map [] 0) 10) (fD 11)) (fD 12)) (fD 13))))
  (fD 16)) (fD 17)))) (.node .dead (.node .dead (.node .dead (fD 17) (.node .dead (.node .dead (.node .dead (fD 14) (.node .dead (.node .dead (.node .dead (fD 11) (lD o15 10)) (fD
  12)) (.node .dead (.node .dead (lD o47 10) (fD 11)) (fD 12)))) (fD 15)) (.node .dead (.node .dead (fD 14) (.node .dead (fD 13) (.node .dead (.node .dead (fD 11) (lD o39 10)) (fD
  12)))) (fD 15)))) (.node .dead (fD 17) (.node .dead (fD 16) (.node .dead (.node .dead (fD 14) (.node .dead (.node .dead (.node .dead (lD (.cells 348 1 1 (lA .nilsl 23) true false)
  10) (fD 11)) (fD 12)) (fD 13))) (fD 15))))) (.node (.cells 114 7 7 (.node (.sl 84 0 0 8 (.u 84 0)) (.node (.sl 82 0 0 8 (.u 82 0)) (lA (nU 0) 21) (lA (nU 0) 21)) (.node (.map 60)
  (lA (nU 0) 21) (lA (nU 0) 21))) true false) (.node o1 (.node .dead (.node .dead (fD 15) (.node .dead (fD 14) (.node .dead (.node .dead (.node .dead (lD (.cells 46 1 5 (.node (nU
  1280) (.node (nU 1664) (lA (nU 1856) 21) (fA 22)) (.node (nU 1472) (lA (nU 1088) 21) (fA 22))) false false) 10) (fD 11)) (fD 12)) (fD 13)))) (fD 16)) (fD 17)) (.node .dead (.node
  .dead (.node .dead (fD 15) (.node .dead (fD 14) (.node .dead (.node .dead (.node .dead (lD (.cells 49 10 10 (.node (nI 6) (.node (nI 0) (.node (nU 0) (lA (nU 0) 20) (fA 21)) (.node
  (nI 0) (lA .nilsl 20) (fA 21))) (.node (nI 0) (.node (nU 0) (lA (nI 0) 20) (fA 21)) (lA (.str (bs [])) 21))) true false) 10) (fD 11)) (fD 12)) (fD 13)))) (fD 16)) (fD 17)))))))
  (.node .dead (.node .dead (.node .dead (.node .dead (.node .dead (.node .dead (fD 17) (lD (.cells 114 7 7 (.node (.sl 967 0 0 384 (.u 967 0)) (.node (.sl 965 0 0 384 (.u 965 0))
  (lA (nU 768) 21) (lA (nU 0) 21)) (.node (.map 191) (lA (nU 0) 21) (lA (nU 0) 21))) true false) 16)) (fD 18)) (fD 19)) (.node .dead (.node .dead (.node .dead (fD 17) (.node .dead
  (.node .dead (.node .dead (fD 14) (.node .dead (.node .dead (.node .dead (fD 11) (lD o1 10)) (fD 12)) (fD 13))) (fD 15)) (.node .dead (fD 15) (lD o52 14)))) (.node .dead (fD 17)
  (.node .dead (fD 16) (.node .dead (.node .dead (fD 14) (.node .dead (.node .dead (.node .dead (lD (.cells 298 2 6 (.node (nI 0) (.node (nU 0) (lA (nU 1) 21) (lA (nU 0) 21)) (.node
  (nI 3) (lA (nI 0) 21) (fA 22))) true false) 10) (fD 11)) (fD 12)) (fD 13))) (fD 15))))) (.node .dead (fD 18) (.node .dead (.node .dead (.node .dead (fD 15) (.node .dead (fD 14)
  (.node .dead (.node .dead (.node .dead (lD (.cells 204 2 2 (.node .nilif (lA (nI 0) 22) (fA 23)) true false) 10) (fD 11)) (fD 12)) (fD 13)))) (fD 16)) (fD 17))))) (.node .dead
  (.node .dead (.node .dead (fD 18) (lD o7 17)) (.node .dead (lD (.cells 43 1 8 (.node (nU 0) (.node (nU 0) (.node (nU 0) (lA (nU 0) 20) (fA 21)) (lA (nU 0) 21)) (.node (nU 0) (lA
  (nU 0) 21) (lA (nU 0) 21))) false false) 17) (fD 18))) (.node .dead (.node .dead (.node .dead (fD 17) (.node .dead (.node .dead (.node .dead (fD 14) (.node .dead (.node .dead
  (.node .dead (fD 11) (lD (.cells 43 1 1 (lA (nU 0) 23) true false) 10)) (fD 12)) (.node .dead (.node .dead (lD (.cells 174 1 1 (lA (.ptr 9803 0) 23) true false) 10) (fD 11)) (fD
  12)))) (fD 15)) (fD 16))) (.node .dead (fD 17) (.node .dead (fD 16) (.node .dead (.node .dead (fD 14) (.node .dead (.node .dead (.node .dead (lD (.cells 348 1 1 (lA .nilsl 23) true
  false) 10) (fD 11)) (fD 12)) (fD 13))) (fD 15))))) (.node (.map [] 0) (fD 18) (.node .dead (.node .dead (.node .dead (fD 15) (.node .dead (fD 14) (.node .dead (.node .dead (.node
  .dead (lD (.cells 106 12 12 (.node (nI 2) (.node (nI 0) (.node (nI 0) (lA (.str (bs [])) 20) (lA (nI 0) 20)) (.node (nU 0) (lA (nI 0) 20) (fA 21))) (.node (nI 0) (.node (nU 0) (lA
  (nU 0) 20) (fA 21)) (.node (nI 0) (lA .nilsl 20) (fA 21)))) true false) 10) (fD 11)) (fD 12)) (fD 13)))) (fD 16)) (fD 17)))))) (.node o1 (.node .dead (.node .dead (.node .dead
  (.node .dead (fD 17) (.node .dead (.node .dead (fD 15) (.node .dead (fD 14) (.node .dead (.node .dead (.node .dead (lD (.cells 22 1 1 (lA (.ptr 968 0) 23) true false) 10) (fD 11))
  (fD 12)) (fD 13)))) (fD 16))) (fD 18)) (.node .dead (lD (.cells 43 1 8 (.node (nU 0) (.node (nU 0) (.node (nU 0) (lA (nU 0) 20) (fA 21)) (lA (nU 0) 21)) (.node (nU 0) (lA (nU 0)
  21) (lA (nU 0) 21))) false false) 17) (fD 18))) (.node .dead (.node .dead (.node .dead (fD 17) (.node .dead (.node .dead (.node .dead (fD 14) (.node .dead (.node .dead (.node .dead
  (fD 11) (lD o50 10)) (fD 12)) (.node .dead (.node .dead (lD o19 10) (fD 11)) (fD 12)))) (fD 15)) (fD 16))) (.node .dead (fD 17) (.node .dead (fD 16) (.node .dead (.node .dead (fD
  14) (.node .dead (.node .dead (.node .dead (lD (.cells 294 7 7 (.node (nI 3072) (.node (.sl 8936 0 0 3 (.k 3)) (lA (.ptr 8941 0) 21) (lA (.ptr 8943 0) 21)) (.node (.ptr 8940 0) (lA
  (.ptr 8942 0) 21) (lA (.map 8937) 21))) true false) 10) (fD 11)) (fD 12)) (fD 13))) (fD 15))))) (fD 19))) (.node .dead (.node .dead (.node .dead (.node .dead (fD 17) (.node .dead
  (.node .dead (.node .dead (fD 14) (.node .dead (.node .dead (.node .dead (fD 11) (lD o51 10)) (fD 12)) (fD 13))) (.node .dead (fD 14) (.node .dead (.node .dead (.node .dead (lD o54
  10) (fD 11)) (fD 12)) (fD 13)))) (fD 16))) (fD 18)) (.node .dead (fD 18) (.node .dead (.node .dead (.node .dead (fD 15) (.node .dead (fD 14) (.node .dead (.node .dead (.node .dead
  (lD o45 10) (fD 11)) (fD 12)) (fD 13)))) (fD 16)) (fD 17)))) (.node .dead (.node .dead (.node .dead (fD 17) (.node .dead (.node .dead (.node .dead (fD 14) (.node .dead (fD 13)
  (.node .dead (.node .dead (lD o1 10) (fD 11)) (fD 12)))) (fD 15)) (fD 16))) (.node .dead (fD 17) (.node .dead (fD 16) (.node .dead (.node .dead (fD 14) (.node .dead (.node .dead
  (.node .dead (lD (.cells 348 1 1 (lA .nilsl 23) true false) 10) (fD 11)) (fD 12)) (fD 13))) (fD 15))))) (fD 19)))))), 14030⟩,
  [.code (codeAt Tryz.f122 [1, 1])]⟩
noncomputable def o66 : Fr :=
  ⟨130, 19, [⟨(.coll 14036), []⟩], .normal, none, .run, (.node (.sl 14029 0 0 3072 (.u 14029 0)) (.node undefV (.node (nI 0) (lU (nI 3072) 20) (lU (.fn (.func 80) [] [(.ptr 14034 0),
  (.ptr 14035 0)]) 20)) (.node undefV (lU (.bool false) 20) (fU 21))) (.node .nilsl (.node (.ptr 14033 0) (lU (nI 0) 20) (fU 21)) (.node (.sl 14029 0 0 3072 (.u 14029 0)) (lU (.sl
  14029 0 0 3072 (.u 14029 0)) 20) (fU 21)))), [.rf 14037, .blk 0, .code (codeAt Tryz.f130 [1, 1, 1, 1])]⟩
noncomputable def o68 : Fr :=
  ⟨82, 68, [], .normal, none, .run, (.node (.sl 14029 0 0 3072 (.u 14029 0)) (.node undefV (.node (nI 2) (.node undefV (lU (nI 2) 19) (fU 20)) (lU (.tup [(nI 2), (.bool true)]) 20))
  (.node undefV (.node undefV (lU (.bool true) 19) (fU 20)) (lU (nI 3072) 20))) (.node .nil (.node (.bool true) (.node undefV (lU (.bool true) 19) (fU 20)) (.node (.sl 14029 0 0 3072
  (.u 14029 0)) (lU (.sl 14029 0 0 3072 (.u 14029 0)) 19) (fU 20))) (.node undefV (lU undefV 20) (lU (.tup [(nI 2), (.bool true)]) 20)))), [.reg (opsAt Tryz.f82 [1, 1, 1, 0]) ((opsAt
  Tryz.f82 [1, 1, 1, 0]).toList.drop 1), .code (codeAt Tryz.f82 [1, 1, 1, 1])]⟩
noncomputable def o63 : Fr :=
  ⟨45, 80, [], .normal, none, .run, (.node (.sl 14029 0 0 3072 (.u 14029 0)) (fU 23) (.node .nil (.node undefV (lU (.sl 14029 0 0 3072 (.u 14029 0)) 20) (fU 21)) (fU 22))), [.reg
  (opsAt Tryz.f45 [1, 0, 0]) ((opsAt Tryz.f45 [1, 0, 0]).toList.drop 1), .code (codeAt Tryz.f45 [1, 0, 1]), .sc (codeAt Tryz.f45 [1, 0])]⟩
noncomputable def o62 : Fr :=
  ⟨44, 103, [], .normal, none, .run, (.node (.ptr 14030 0) (.node (.ptr 14031 0) (fU 22) (.node undefV (fU 21) (lU (.sl 14029 0 0 3072 (.u 14029 0)) 20))) (fU 23)), [.reg (opsAt
  Tryz.f44 [0]) ((opsAt Tryz.f44 [0]).toList.drop 1), .code (codeAt Tryz.f44 [1])]⟩
noncomputable def o65 : Fr :=
  ⟨43, 6, [⟨(.fn (.func 81) [(.ptr 14032 0)]), []⟩], .normal, none, .run, (.node (.fn (.func 44) [] [(.ptr 14030 0), (.ptr 14031 0)]) (.node undefV (lU (.fn (.func 81) [] [(.ptr
  14032 0)]) 21) (fU 22)) (.node (.ptr 14032 0) (lU (.fn (.func 44) [] [(.ptr 14030 0), (.ptr 14031 0)]) 21) (fU 22))), [.reg (opsAt Tryz.f43 [1, 1, 0]) ((opsAt Tryz.f43 [1, 1,
  0]).toList.drop 1), .code (codeAt Tryz.f43 [1, 1, 1])]⟩
noncomputable def o64 : Fr :=
  ⟨18, 8, [], .normal, none, .run, (.node (.sl 14029 0 0 3072 (.u 14029 0)) (.node (.ptr 14030 0) (lU (nI 0) 21) (fU 22)) (.node (.ptr 14031 0) (lU (.fn (.func 44) [] [(.ptr 14030
  0), (.ptr 14031 0)]) 21) (fU 22))), [.reg (opsAt Tryz.f18 [1, 0]) ((opsAt Tryz.f18 [1, 0]).toList.drop 1), .code (codeAt Tryz.f18 [1, 1])]⟩
noncomputable def o69 : Fr :=
  ⟨118, 57, [], .normal, none, .run, (.node (.ptr 9030 0) (.node undefV (.node (nI 0) (.node (.ptr 9030 0) (.node (.ptr 9802 383) (lU (.sl 12877 0 0 384 (.u 12877 0)) 18) (fU 19))
  (.node (.ptr 9030 0) (lU (.ptr 9030 0) 18) (fU 19))) (.node (.ptr 9030 0) (.node (nI 0) (lU (.sl 9802 383 0 1 (.u 9802 383)) 18) (fU 19)) (.node (.ptr 9030 2) (lU (.ptr 9030 1) 18)
  (fU 19)))) (.node (nI 0) (.node (.ptr 9030 0) (.node (.tup [(nU 0), (nI 0)]) (lU (.ptr 9030 0) 18) (lU (.ptr 9030 0) 18)) (.node (.ptr 9030 0) (lU (.ptr 9030 0) 18) (fU 19)))
  (.node (.ptr 9030 1) (.node (.bool false) (lU (.ptr 9030 0) 18) (fU 19)) (.node (nU 0) (lU (nI 0) 18) (fU 19))))) (.node (.bool false) (.node (nU 0) (.node (.ptr 9030 0) (.node (nU
  3064) (lU (.ptr 9030 0) 18) (lU (.ptr 9030 0) 18)) (.node (.ptr 9030 0) (lU (.ptr 9030 1) 18) (fU 19))) (.node (.ptr 9030 0) (.node (nI 0) (lU (.sl 9802 383 1 0 (.u 9802 384)) 18)
  (fU 19)) (.node (.sl 12869 0 0 383 (.u 12869 0)) (lU (.sl 9802 383 1 0 (.u 9802 384)) 18) (fU 19)))) (.node (.tup [(nU 0), (nI 0)]) (.node (.ptr 192 0) (.node (nU 0) (lU (.ptr 9030
  1) 18) (lU (.sl 14029 0 0 3072 (.u 14029 0)) 18)) (.node (.ptr 9030 0) (lU (.ptr 9030 0) 18) (fU 19))) (.node (.sl 9802 383 0 1 (.u 9802 383)) (.node undefV (lU (.ptr 9030 2) 18)
  (fU 19)) (.node (.sl 12876 0 0 1 (.k 1)) (lU (.bool false) 18) (fU 19)))))), [.reg (opsAt Tryz.f118 [1, 1, 1, 1, 1, 0]) ((opsAt Tryz.f118 [1, 1, 1, 1, 1, 0]).toList.drop 3), .code
  (codeAt Tryz.f118 [1, 1, 1, 1, 1, 1])]⟩
noncomputable def o67 : Ob :=
  (.loop .ready none 130 (.node (.sl 14029 0 0 3072 (.u 14029 0)) (.node undefV (.node (nI 0) (lU (nI 3072) 20) (lU (.fn (.func 80) [] [(.ptr 14034 0), (.ptr 14035 0)]) 20)) (.node
  undefV (lU (.bool false) 20) (fU 21))) (.node .nilsl (.node (.ptr 14033 0) (lU (nI 0) 20) (fU 21)) (.node (.sl 14029 0 0 3072 (.u 14029 0)) (lU (.sl 14029 0 0 3072 (.u 14029 0))
  20) (fU 21)))) 19 #[12] (codeAt Tryz.f130 [1, 1, 1, 0, 1, 0, 0]) (codeAt Tryz.f130 [1, 1, 1, 0, 1, 0, 1]) 14036)
/-- where the run stands at the end of part 32 -/
noncomputable def s32 : St :=
  ⟨⟨80, 31, [], .normal, none,
  [o66,
    o68,
    o63,
    o62,
    o65,
    o64,
    o69,
    o56,
    o55,
    o58,
    o49,
    o57,
    o61,
    o59,
    o48,
    o46,
   
  o6]⟩,
  .run,
  (.node (.yld 14037) (.node (.ptr 14034 0) (.node undefV (.node (.sl 14029 0 0 3072 (.u 14029 0)) (lU (nI 1168) 19) (lU (nI 8) 19)) (.node (nI 8) (lU (.yld 14037)
  19) (lU (nI 1176) 19))) (.node (nI 8) (.node (.bool true) (lU (nI 1904) 19) (lU (nI 1168) 19)) (.node (nI 8) (lU (nI 1168) 19) (lU (.bool true) 19)))) (.node (.ptr 14035 0) (.node
  (nI 1176) (.node (nI 3072) (lU (.sl 14029 1168 0 1904 (.u 14029 1168)) 19) (lU (nI 1176) 19)) (.node (nI 1176) (lU (.sl 14029 0 0 3072 (.u 14029 0)) 19) (lU (.sl 14029 1168 0 8 (.k
  8)) 19))) (.node (nI 1168) (.node (nI 1168) (lU (nI 8) 19) (lU (nI 8) 19)) (.node (.sl 14029 0 0 3072 (.u 14029 0)) (lU (nI 1168) 19) (lU (.bool false) 19))))),
  ⟨(.node (.cells
  31 10 10 (.node .nil (.node (nI 0) (.node (nI 0) (lA .nil 20) (fA 21)) (.node (.bool false) (lA .nilfn 20) (fA 21))) (.node (nI 0) (.node .nilsl (lA .nil 20) (fA 21)) (lA .nilsl
  21))) true false) (.node .dead (.node o1 (.node (.cells 5 1 64 (fB 24) true false) (.node .dead (.node .dead (.node .dead (fD 17) (lD (.map [] 0) 16)) (fD 18)) (.node .dead (.node
  .dead (fD 17) (.node .dead (fD 16) (.node .dead (.node .dead (fD 14) (.node .dead (fD 13) (.node .dead (.node .dead (fD 11) (lD (.cells 73 6 6 (.node .nilsl (.node .nilsl (lA
  .nilsl 21) (lA (nI 0) 21)) (.node .nilsl (lA (nI 0) 21) (fA 22))) true false) 10)) (fD 12)))) (fD 15)))) (.node .dead (fD 17) (.node .dead (fD 16) (.node .dead (.node .dead (fD 14)
  (.node .dead (.node .dead (.node .dead (lD (.cells 348 1 1 (lA (.sl 8989 0 0 4 (.u 8989 0)) 23) true false) 10) (fD 11)) (fD 12)) (fD 13))) (fD 15)))))) (.node .dead (.node .dead
  (.node .dead (fD 17) (.node .dead (.node .dead (.node .dead (fD 14) (.node .dead (.node .dead (.node .dead (fD 11) (lD (.cells 49 10 10 (.node (nI 7) (.node (nI 0) (.node (nU 0)
  (lA (nU 0) 20) (fA 21)) (.node (nI 0) (lA .nilsl 20) (fA 21))) (.node (nI 0) (.node (nU 0) (lA (nI 0) 20) (fA 21)) (lA (.str (bs [])) 21))) true false) 10)) (fD 12)) (fD 13))) (fD
  15)) (.node .dead (fD 15) (lD o15 14)))) (fD 18)) (.node .dead (fD 18) (.node .dead (.node .dead (.node .dead (fD 15) (.node .dead (fD 14) (.node .dead (.node .dead (.node .dead
  (lD (.cells 211 3 3 (.node (.ptr 192 0) (lA (.ptr 8938 0) 22) (lA (.ptr 9014 0) 22)) true false) 10) (fD 11)) (fD 12)) (fD 13)))) (fD 16)) (fD 17))))) (.node .dead (.node .dead
  (.node .dead (fD 18) (lD (.cells 99 3 3 (.node .nilsl (lA .nilsl 22) (lA (.bool false) 22)) false false) 17)) (.node .dead (.node .dead (fD 17) (.node .dead (fD 16) (.node .dead
  (.node .dead (fD 14) (.node .dead (fD 13) (.node .dead (.node .dead (fD 11) (lD (.cells 3 1 1 (lA (nI 8) 23) true false) 10)) (fD 12)))) (fD 15)))) (fD 18))) (.node .dead (.node
  .dead (.node .dead (fD 17) (.node .dead (.node .dead (.node .dead (fD 14) (.node .dead (.node .dead (.node .dead (fD 11) (lD (.cells 49 10 10 (.node (nI 7) (.node (nI 0) (.node (nU
  0) (lA (nU 0) 20) (fA 21)) (.node (nI 0) (lA .nilsl 20) (fA 21))) (.node (nI 0) (.node (nU 0) (lA (nI 0) 20) (fA 21)) (lA (.str (bs [])) 21))) true false) 10)) (fD 12)) (.node
  .dead (.node .dead (lD (.cells 242 9 9 (.node (.ptr 9015 0) (.node (.ptr 9030 0) (.node (.fn (.func 126) [(.ptr 9803 0)] []) (lA (.bool false) 20) (fA 21)) (lA .nilsl 21)) (.node
  .nil (.node .nilsl (lA (nI 0) 20) (fA 21)) (lA .nilsl 21))) true false) 10) (fD 11)) (fD 12)))) (fD 15)) (fD 16))) (fD 18)) (.node (.cells 5 1 64 (fB 24) true false) (fD 18) (.node
  .dead (.node .dead (.node .dead (fD 15) (.node .dead (fD 14) (.node .dead (.node .dead (.node .dead (lD o44 10) (fD 11)) (fD 12)) (fD 13)))) (fD 16)) (.node .dead (fD 16) (.node
  .dead (fD 15) (.node .dead (fD 14) (.node .dead (fD 13) (.node .dead (.node .dead (fD 11) (lD (.cells 43 1 147 (.node (nU 5929342154728227142) (.node (nU 3072) (.node (nU
  18446744073709548543) (.node (nU 0) (.node (nU 0) (.node (nU 0) (.node (nU 0) (lA (nU 0) 16) (fA 17)) (lA (nU 0) 17)) (.node (nU 0) (.node (nU 0) (lA (nU 0) 16) (fA 17)) (lA (nU 0)
  17))) (.node (nU 0) (.node (nU 0) (.node (nU 0) (lA (nU 0) 16) (fA 17)) (lA (nU 0) 17)) (.node (nU 0) (lA (nU 0) 17) (lA (nU 0) 17)))) (.node (nU 0) (.node (nU 0) (.node (nU 0)
  (.node (nU 0) (lA (nU 0) 16) (fA 17)) (lA (nU 0) 17)) (.node (nU 0) (lA (nU 0) 17) (lA (nU 0) 17))) (.node (nU 0) (.node (nU 0) (.node (nU 0) (lA (nU 0) 16) (fA 17)) (lA (nU 0)
  17)) (.node (nU 0) (lA (nU 0) 17) (lA (nU 0) 17))))) (.node (nU 0) (.node (nU 0) (.node (nU 0) (.node (nU 0) (.node (nU 0) (lA (nU 1) 16) (fA 17)) (lA (nU 0) 17)) (.node (nU 0)
  (.node (nU 0) (lA (nU 0) 16) (fA 17)) (lA (nU 0) 17))) (.node (nU 0) (.node (nU 0) (.node (nU 0) (lA (nU 0) 16) (fA 17)) (lA (nU 0) 17)) (.node (nU 0) (lA (nU 0) 17) (lA (nU 0)
  17)))) (.node (nU 0) (.node (nU 0) (.node (nU 0) (.node (nU 0) (lA (nU 0) 16) (fA 17)) (lA (nU 0) 17)) (.node (nU 0) (lA (nU 0) 17) (lA (nU 0) 17))) (.node (nU 0) (.node (nU 0)
  (.node (nU 0) (lA (nU 0) 16) (fA 17)) (lA (nU 0) 17)) (.node (nU 0) (lA (nU 0) 17) (lA (nU 0) 17)))))) (.node (nU 1088) (.node (nU 0) (.node (nU 0) (.node (nU 0) (.node (nU 0)
  (.node (nU 0) (lA (nU 3) 16) (fA 17)) (lA (nU 0) 17)) (.node (nU 0) (.node (nU 0) (lA (nU 0) 16) (fA 17)) (lA (nU 0) 17))) (.node (nU 0) (.node (nU 0) (.node (nU 0) (lA (nU
  5495893775785918464) 16) (fA 17)) (lA (nU 0) 17)) (.node (nU 0) (lA (nU 0) 17) (lA (nU 0) 17)))) (.node (nU 0) (.node (nU 0) (.node (nU 0) (.node (nU 0) (lA (nU 0) 16) (fA 17)) (lA
  (nU 0) 17)) (.node (nU 0) (lA (nU 0) 17) (lA (nU 0) 17))) (.node (nU 0) (.node (nU 0) (.node (nU 0) (lA (nU 1088) 16) (fA 17)) (lA (nU 0) 17)) (.node (nU 0) (lA (nU 0) 17) (lA (nU
  0) 17))))) (.node (nU 0) (.node (nU 0) (.node (nU 0) (.node (nU 0) (.node (nU 0) (lA (nU 0) 16) (fA 17)) (lA (nU 0) 17)) (.node (nU 0) (.node (nU 0) (lA (nU 0) 16) (fA 17)) (lA (nU
  0) 17))) (.node (nU 0) (.node (nU 0) (.node (nU 0) (lA (nU 0) 16) (fA 17)) (lA (nU 0) 17)) (.node (nU 0) (lA (nU 0) 17) (lA (nU 0) 17)))) (.node (nU 0) (.node (nU 0) (.node (nU 0)
  (.node (nU 0) (lA (nU 0) 16) (fA 17)) (lA (nU 0) 17)) (.node (nU 0) (lA (nU 0) 17) (lA (nU 0) 17))) (.node (nU 0) (.node (nU 0) (.node (nU 0) (lA (nU 0) 16) (fA 17)) (lA (nU 0)
  17)) (.node (nU 0) (lA (nU 0) 17) (lA (nU 0) 17))))))) false false) 10)) (fD 12))))))))))) (.node .dead (.node .dead (.node .dead (lD (.cells 5 1 64 (fB 24) true false) 18) (.node
  .dead (.node .dead (fD 17) (.node .dead (.node .dead (fD 15) (.node .dead (fD 14) (lD (.cells 106 12 12 (.node (nI 1) (.node (nI 0) (.node (nI 0) (lA (.str (bs [])) 20) (lA (nI 0)
  20)) (.node (nU 0) (lA (nI 0) 20) (fA 21))) (.node (nI 0) (.node (nU 0) (lA (nU 0) 20) (fA 21)) (.node (nI 0) (lA .nilsl 20) (fA 21)))) true false) 13))) (.node .dead (.node .dead
  (fD 14) (.node .dead (fD 13) (.node .dead (.node .dead (fD 11) (lD (.cells 87 1 1 (lA (.sl 14331 0 0 147 (.u 14331 0)) 23) true false) 10)) (fD 12)))) (fD 15)))) (fD 18))) (.node
  .dead (.node .dead (.node .dead (fD 17) (.node .dead (.node .dead (.node .dead (fD 14) (.node .dead (.node .dead (.node .dead (fD 11) (lD (.map [⟨(nI 1), (.fn (.func 33) [] []),
  0⟩, ⟨(nI 2), (.fn (.func 34) [] []), 1⟩, ⟨(nI 3), (.fn (.func 35) [] []), 2⟩, ⟨(nI 4), (.fn (.func 36) [] []), 3⟩, ⟨(nI 5), (.fn (.func 37) [] []), 4⟩, ⟨(nI 6), (.fn (.func 38) []
  []), 5⟩, ⟨(nI 7), (.fn (.func 39) [] []), 6⟩] 7) 10)) (fD 12)) (fD 13))) (fD 15)) (fD 16))) (.node .dead (fD 17) (.node .dead (fD 16) (.node .dead (.node .dead (fD 14) (.node .dead
  (.node .dead (.node .dead (lD (.map [⟨(nU 1088), (nI 2), 0⟩] 1) 10) (fD 11)) (fD 12)) (fD 13))) (fD 15))))) (.node .dead (fD 18) (.node .dead (.node .dead (.node .dead (fD 15)
  (.node .dead (fD 14) (.node .dead (.node .dead (.node .dead (lD (.cells 198 4 4 (.node (.ptr 9015 0) (.node (.sl 9016 0 0 1 (.k 1)) (lA (nI 0) 21) (fA 22)) (lA .nilsl 22)) true
  false) 10) (fD 11)) (fD 12)) (fD 13)))) (fD 16)) (fD 17))))) (.node .dead (.node .dead (.node .dead (.node .dead (fD 17) (.node .dead (fD 16) (.node .dead (fD 15) (lD o15 14))))
  (fD 18)) (.node .dead (.node (.cells 31 10 10 (.node (.ptr 61 0) (.node (nI 1) (.node (nI 0) (lA .nil 20) (fA 21)) (.node (.bool false) (lA .nilfn 20) (fA 21))) (.node (nI 1)
  (.node .nilsl (lA .nil 20) (fA 21)) (lA .nilsl 21))) true false) (fD 17) (.node .dead (fD 16) (.node .dead (.node .dead (fD 14) (.node .dead (fD 13) (.node .dead (.node .dead (fD
  11) (lD o67 10)) (fD 12)))) (fD 15)))) (.node .dead (.node .dead (.node .dead (fD 15) (.node .dead (fD 14) (.node .dead (.node .dead (.node .dead (lD (.map [] 0) 10) (fD 11)) (fD
  12)) (fD 13)))) (fD 16)) (fD 17)))) (.node .dead (.node .dead (.node .dead (fD 17) (.node .dead (.node .dead (.node .dead (fD 14) (.node .dead (.node .dead (.node .dead (fD 11) (lD
  o15 10)) (fD 12)) (.node .dead (.node .dead (lD o47 10) (fD 11)) (fD 12)))) (fD 15)) (.node .dead (.node .dead (fD 14) (.node .dead (fD 13) (.node .dead (.node .dead (fD 11) (lD
  o39 10)) (fD 12)))) (fD 15)))) (.node .dead (fD 17) (.node .dead (fD 16) (.node .dead (.node .dead (fD 14) (.node .dead (.node .dead (.node .dead (lD (.cells 348 1 1 (lA .nilsl 23)
  true false) 10) (fD 11)) (fD 12)) (fD 13))) (fD 15))))) (.node (.cells 114 7 7 (.node (.sl 84 0 0 8 (.u 84 0)) (.node (.sl 82 0 0 8 (.u 82 0)) (lA (nU 0) 21) (lA (nU 0) 21)) (.node
  (.map 60) (lA (nU 0) 21) (lA (nU 0) 21))) true false) (.node o1 (.node .dead (.node .dead (fD 15) (.node .dead (fD 14) (.node .dead (.node .dead (.node .dead (lD (.cells 46 1 5
  (.node (nU 1280) (.node (nU 1664) (lA (nU 1856) 21) (fA 22)) (.node (nU 1472) (lA (nU 1088) 21) (fA 22))) false false) 10) (fD 11)) (fD 12)) (fD 13)))) (fD 16)) (fD 17)) (.node
  .dead (.node .dead (.node .dead (fD 15) (.node .dead (fD 14) (.node .dead (.node .dead (.node .dead (lD (.cells 49 10 10 (.node (nI 6) (.node (nI 0) (.node (nU 0) (lA (nU 0) 20)
  (fA 21)) (.node (nI 0) (lA .nilsl 20) (fA 21))) (.node (nI 0) (.node (nU 0) (lA (nI 0) 20) (fA 21)) (lA (.str (bs [])) 21))) true false) 10) (fD 11)) (fD 12)) (fD 13)))) (fD 16))
  (fD 17))))))) (.node .dead (.node .dead (.node .dead (.node .dead (.node .dead (.node .dead (fD 17) (lD (.cells 114 7 7 (.node (.sl 967 0 0 384 (.u 967 0)) (.node (.sl 965 0 0 384
  (.u 965 0)) (lA (nU 768) 21) (lA (nU 0) 21)) (.node (.map 191) (lA (nU 0) 21) (lA (nU 0) 21))) true false) 16)) (fD 18)) (.node .dead (.node .dead (fD 17) (.node .dead (fD 16)
  (.node .dead (.node .dead (fD 14) (.node .dead (fD 13) (.node .dead (.node .dead (fD 11) (lD (.cells 33 1 1 (lA (nI 0) 23) true false) 10)) (fD 12)))) (fD 15)))) (fD 18))) (.node
  .dead (.node .dead (.node .dead (fD 17) (.node .dead (.node .dead (.node .dead (fD 14) (.node .dead (.node .dead (.node .dead (fD 11) (lD o1 10)) (fD 12)) (fD 13))) (fD 15)) (.node
  .dead (fD 15) (lD o52 14)))) (.node .dead (fD 17) (.node .dead (fD 16) (.node .dead (.node .dead (fD 14) (.node .dead (.node .dead (.node .dead (lD (.cells 298 2 6 (.node (nI 0)
  (.node (nU 0) (lA (nU 1) 21) (lA (nU 0) 21)) (.node (nI 3) (lA (nI 0) 21) (fA 22))) true false) 10) (fD 11)) (fD 12)) (fD 13))) (fD 15))))) (.node .dead (fD 18) (.node .dead (.node
  .dead (.node .dead (fD 15) (.node .dead (fD 14) (.node .dead (.node .dead (.node .dead (lD (.cells 204 2 2 (.node .nilif (lA (nI 0) 22) (fA 23)) true false) 10) (fD 11)) (fD 12))
  (fD 13)))) (fD 16)) (fD 17))))) (.node .dead (.node .dead (.node .dead (fD 18) (lD o7 17)) (.node .dead (.node (.cells 43 1 8 (.node (nU 0) (.node (nU 0) (.node (nU 0) (lA (nU 0)
  20) (fA 21)) (lA (nU 0) 21)) (.node (nU 0) (lA (nU 0) 21) (lA (nU 0) 21))) false false) (fD 17) (.node .dead (fD 16) (.node .dead (.node .dead (fD 14) (.node .dead (fD 13) (.node
  .dead (.node .dead (fD 11) (lD (.defd (some [])) 10)) (fD 12)))) (fD 15)))) (fD 18))) (.node .dead (.node .dead (.node .dead (fD 17) (.node .dead (.node .dead (.node .dead (fD 14)
  (.node .dead (.node .dead (.node .dead (fD 11) (lD (.cells 43 1 1 (lA (nU 0) 23) true false) 10)) (fD 12)) (.node .dead (.node .dead (lD (.cells 174 1 1 (lA (.ptr 9803 0) 23) true
  false) 10) (fD 11)) (fD 12)))) (fD 15)) (fD 16))) (.node .dead (fD 17) (.node .dead (fD 16) (.node .dead (.node .dead (fD 14) (.node .dead (.node .dead (.node .dead (lD (.cells 348
  1 1 (lA .nilsl 23) true false) 10) (fD 11)) (fD 12)) (fD 13))) (fD 15))))) (.node (.map [] 0) (fD 18) (.node .dead (.node .dead (.node .dead (fD 15) (.node .dead (fD 14) (.node
  .dead (.node .dead (.node .dead (lD (.cells 106 12 12 (.node (nI 2) (.node (nI 0) (.node (nI 0) (lA (.str (bs [])) 20) (lA (nI 0) 20)) (.node (nU 0) (lA (nI 0) 20) (fA 21))) (.node
  (nI 0) (.node (nU 0) (lA (nU 0) 20) (fA 21)) (.node (nI 0) (lA .nilsl 20) (fA 21)))) true false) 10) (fD 11)) (fD 12)) (fD 13)))) (fD 16)) (fD 17)))))) (.node o1 (.node .dead
  (.node .dead (.node .dead (.node .dead (fD 17) (.node .dead (.node .dead (fD 15) (.node .dead (fD 14) (.node .dead (.node .dead (.node .dead (lD (.cells 22 1 1 (lA (.ptr 968 0) 23)
  true false) 10) (fD 11)) (fD 12)) (fD 13)))) (fD 16))) (fD 18)) (.node .dead (.node (.cells 43 1 8 (.node (nU 0) (.node (nU 0) (.node (nU 0) (lA (nU 0) 20) (fA 21)) (lA (nU 0) 21))
  (.node (nU 0) (lA (nU 0) 21) (lA (nU 0) 21))) false false) (fD 17) (.node .dead (fD 16) (.node .dead (.node .dead (fD 14) (.node .dead (fD 13) (.node .dead (.node .dead (fD 11) (lD
  (.cells 52 1 1 (lA (.sl 14029 0 0 3072 (.u 14029 0)) 23) true false) 10)) (fD 12)))) (fD 15)))) (fD 18))) (.node .dead (.node .dead (.node .dead (fD 17) (.node .dead (.node .dead
  (.node .dead (fD 14) (.node .dead (.node .dead (.node .dead (fD 11) (lD o50 10)) (fD 12)) (.node .dead (.node .dead (lD o19 10) (fD 11)) (fD 12)))) (fD 15)) (fD 16))) (.node .dead
  (fD 17) (.node .dead (fD 16) (.node .dead (.node .dead (fD 14) (.node .dead (.node .dead (.node .dead (lD (.cells 294 7 7 (.node (nI 3072) (.node (.sl 8936 0 0 3 (.k 3)) (lA (.ptr
  8941 0) 21) (lA (.ptr 8943 0) 21)) (.node (.ptr 8940 0) (lA (.ptr 8942 0) 21) (lA (.map 8937) 21))) true false) 10) (fD 11)) (fD 12)) (fD 13))) (fD 15))))) (fD 19))) (.node .dead
  (.node .dead (.node .dead (.node .dead (fD 17) (.node .dead (.node .dead (.node .dead (fD 14) (.node .dead (.node .dead (.node .dead (fD 11) (lD o51 10)) (fD 12)) (fD 13))) (.node
  .dead (fD 14) (.node .dead (.node .dead (.node .dead (lD o54 10) (fD 11)) (fD 12)) (fD 13)))) (fD 16))) (fD 18)) (.node .dead (fD 18) (.node .dead (.node .dead (.node .dead (fD 15)
  (.node .dead (fD 14) (.node .dead (.node .dead (.node .dead (lD o45 10) (fD 11)) (fD 12)) (fD 13)))) (fD 16)) (fD 17)))) (.node .dead (.node .dead (.node .dead (fD 17) (.node .dead
  (.node .dead (.node .dead (fD 14) (.node .dead (fD 13) (.node .dead (.node .dead (lD o1 10) (fD 11)) (fD 12)))) (fD 15)) (.node .dead (.node .dead (fD 14) (.node .dead (fD 13)
  (.node .dead (.node .dead (fD 11) (lD (.cells 52 1 1 (lA (.sl 14029 0 0 3072 (.u 14029 0)) 23) true false) 10)) (fD 12)))) (fD 15)))) (.node .dead (fD 17) (.node .dead (fD 16)
  (.node .dead (.node .dead (fD 14) (.node .dead (.node .dead (.node .dead (lD (.cells 348 1 1 (lA .nilsl 23) true false) 10) (fD 11)) (fD 12)) (fD 13))) (fD 15))))) (fD 19)))))),
  14332⟩,
  [.lp (codeAt Tryz.f80 [1, 0, 0]), .blk 0]⟩
/-- where the run stands at the end of part 33 -/
noncomputable def s33 : St :=
  ⟨⟨80, 31, [], .normal, none,
  [o66,
    o68,
    o63,
    o62,
    o65,
    o64,
    o69,
    o56,
    o55,
    o58,
    o49,
    o57,
    o61,
    o59,
    o48,
    o46,
   
  o6]⟩,
  .run,
  (.node (.yld 14037) (.node (.ptr 14034 0) (.node undefV (.node (.sl 14029 0 0 3072 (.u 14029 0)) (lU (nI 2368) 19) (lU (nI 8) 19)) (.node (nI 8) (lU (.yld 14037)
  19) (lU (nI 2376) 19))) (.node (nI 8) (.node (.bool true) (lU (nI 704) 19) (lU (nI 2368) 19)) (.node (nI 8) (lU (nI 2368) 19) (lU (.bool true) 19)))) (.node (.ptr 14035 0) (.node
  (nI 2376) (.node (nI 3072) (lU (.sl 14029 2368 0 704 (.u 14029 2368)) 19) (lU (nI 2376) 19)) (.node (nI 2376) (lU (.sl 14029 0 0 3072 (.u 14029 0)) 19) (lU (.sl 14029 2368 0 8 (.k
  8)) 19))) (.node (nI 2368) (.node (nI 2368) (lU (nI 8) 19) (lU (nI 8) 19)) (.node (.sl 14029 0 0 3072 (.u 14029 0)) (lU (nI 2368) 19) (lU (.bool false) 19))))),
  ⟨(.node (.cells
  31 10 10 (.node .nil (.node (nI 0) (.node (nI 0) (lA .nil 20) (fA 21)) (.node (.bool false) (lA .nilfn 20) (fA 21))) (.node (nI 0) (.node .nilsl (lA .nil 20) (fA 21)) (lA .nilsl
  21))) true false) (.node .dead (.node o1 (.node (.cells 5 1 64 (fB 24) true false) (.node .dead (.node .dead (.node .dead (fD 17) (lD (.map [] 0) 16)) (fD 18)) (.node .dead (.node
  .dead (fD 17) (.node .dead (fD 16) (.node .dead (.node .dead (fD 14) (.node .dead (fD 13) (.node .dead (.node .dead (fD 11) (lD (.cells 73 6 6 (.node .nilsl (.node .nilsl (lA
  .nilsl 21) (lA (nI 0) 21)) (.node .nilsl (lA (nI 0) 21) (fA 22))) true false) 10)) (fD 12)))) (fD 15)))) (.node .dead (fD 17) (.node .dead (fD 16) (.node .dead (.node .dead (fD 14)
  (.node .dead (.node .dead (.node .dead (lD (.cells 348 1 1 (lA (.sl 8989 0 0 4 (.u 8989 0)) 23) true false) 10) (fD 11)) (fD 12)) (fD 13))) (fD 15)))))) (.node .dead (.node .dead
  (.node .dead (fD 17) (.node .dead (.node .dead (.node .dead (fD 14) (.node .dead (.node .dead (.node .dead (fD 11) (lD (.cells 49 10 10 (.node (nI 7) (.node (nI 0) (.node (nU 0)
  (lA (nU 0) 20) (fA 21)) (.node (nI 0) (lA .nilsl 20) (fA 21))) (.node (nI 0) (.node (nU 0) (lA (nI 0) 20) (fA 21)) (lA (.str (bs [])) 21))) true false) 10)) (fD 12)) (fD 13))) (fD
  15)) (.node .dead (fD 15) (lD o15 14)))) (.node .dead (.node .dead (.node .dead (fD 15) (.node .dead (.node .dead (.node .dead (fD 12) (.node .dead (fD 11) (lD (.cells 43 1 297
  (.node (nU 5929342154728227142) (.node (nU 3072) (.node (nU 18446744073709548543) (.node (nU 0) (.node (nU 0) (.node (nU 0) (.node (nU 0) (.node (nU 0) (lA (nU 0) 15) (fA 16)) (lA
  (nU 0) 16)) (.node (nU 0) (.node (nU 0) (lA (nU 0) 15) (fA 16)) (lA (nU 0) 16))) (.node (nU 0) (.node (nU 0) (.node (nU 0) (lA (nU 0) 15) (fA 16)) (lA (nU 0) 16)) (.node (nU 0) (lA
  (nU 0) 16) (lA (nU 0) 16)))) (.node (nU 0) (.node (nU 0) (.node (nU 0) (.node (nU 0) (lA (nU 0) 15) (fA 16)) (lA (nU 0) 16)) (.node (nU 0) (.node (nU 0) (lA (nU 0) 15) (fA 16)) (lA
  (nU 0) 16))) (.node (nU 0) (.node (nU 0) (.node (nU 0) (lA (nU 0) 15) (fA 16)) (lA (nU 0) 16)) (.node (nU 0) (lA (nU 0) 16) (lA (nU 0) 16))))) (.node (nU 0) (.node (nU 0) (.node
  (nU 0) (.node (nU 0) (.node (nU 0) (lA (nU 0) 15) (fA 16)) (lA (nU 0) 16)) (.node (nU 0) (.node (nU 0) (lA (nU 0) 15) (fA 16)) (lA (nU 0) 16))) (.node (nU 0) (.node (nU 0) (.node
  (nU 0) (lA (nU 0) 15) (fA 16)) (lA (nU 0) 16)) (.node (nU 0) (lA (nU 0) 16) (lA (nU 0) 16)))) (.node (nU 0) (.node (nU 0) (.node (nU 0) (.node (nU 0) (lA (nU 0) 15) (fA 16)) (lA
  (nU 0) 16)) (.node (nU 0) (lA (nU 0) 16) (lA (nU 0) 16))) (.node (nU 0) (.node (nU 0) (.node (nU 0) (lA (nU 0) 15) (fA 16)) (lA (nU 0) 16)) (.node (nU 0) (lA (nU 0) 16) (lA (nU 0)
  16)))))) (.node (nU 0) (.node (nU 0) (.node (nU 0) (.node (nU 0) (.node (nU 0) (.node (nU 1) (lA (nU 0) 15) (fA 16)) (lA (nU 0) 16)) (.node (nU 0) (.node (nU 0) (lA (nU 0) 15) (fA
  16)) (lA (nU 0) 16))) (.node (nU 0) (.node (nU 0) (.node (nU 0) (lA (nU 0) 15) (fA 16)) (lA (nU 0) 16)) (.node (nU 0) (lA (nU 0) 16) (lA (nU 0) 16)))) (.node (nU 0) (.node (nU 0)
  (.node (nU 0) (.node (nU 0) (lA (nU 0) 15) (fA 16)) (lA (nU 0) 16)) (.node (nU 0) (lA (nU 0) 16) (lA (nU 0) 16))) (.node (nU 0) (.node (nU 0) (.node (nU 0) (lA (nU 0) 15) (fA 16))
  (lA (nU 0) 16)) (.node (nU 0) (lA (nU 0) 16) (lA (nU 0) 16))))) (.node (nU 0) (.node (nU 0) (.node (nU 0) (.node (nU 0) (.node (nU 0) (lA (nU 0) 15) (fA 16)) (lA (nU 0) 16)) (.node
  (nU 0) (.node (nU 0) (lA (nU 0) 15) (fA 16)) (lA (nU 0) 16))) (.node (nU 0) (.node (nU 0) (.node (nU 0) (lA (nU 0) 15) (fA 16)) (lA (nU 0) 16)) (.node (nU 0) (lA (nU 0) 16) (lA (nU
  0) 16)))) (.node (nU 0) (.node (nU 0) (.node (nU 0) (.node (nU 0) (lA (nU 0) 15) (fA 16)) (lA (nU 0) 16)) (.node (nU 0) (lA (nU 0) 16) (lA (nU 0) 16))) (.node (nU 0) (.node (nU 0)
  (.node (nU 0) (lA (nU 0) 15) (fA 16)) (lA (nU 0) 16)) (.node (nU 0) (lA (nU 0) 16) (lA (nU 0) 16))))))) (.node (nU 1088) (.node (nU 0) (.node (nU 0) (.node (nU 0) (.node (nU 0)
  (.node (nU 0) (.node (nU 3) (lA (nU 0) 15) (fA 16)) (lA (nU 0) 16)) (.node (nU 0) (.node (nU 0) (lA (nU 0) 15) (fA 16)) (lA (nU 0) 16))) (.node (nU 0) (.node (nU 0) (.node (nU 0)
  (lA (nU 0) 15) (fA 16)) (lA (nU 0) 16)) (.node (nU 0) (lA (nU 0) 16) (lA (nU 0) 16)))) (.node (nU 0) (.node (nU 0) (.node (nU 0) (.node (nU 5495893775785918464) (lA (nU 0) 15) (fA
  16)) (lA (nU 0) 16)) (.node (nU 0) (.node (nU 0) (lA (nU 0) 15) (fA 16)) (lA (nU 0) 16))) (.node (nU 0) (.node (nU 0) (.node (nU 0) (lA (nU 0) 15) (fA 16)) (lA (nU 0) 16)) (.node
  (nU 0) (lA (nU 0) 16) (lA (nU 0) 16))))) (.node (nU 0) (.node (nU 0) (.node (nU 0) (.node (nU 0) (.node (nU 0) (lA (nU 0) 15) (fA 16)) (lA (nU 0) 16)) (.node (nU 0) (.node (nU 0)
  (lA (nU 0) 15) (fA 16)) (lA (nU 0) 16))) (.node (nU 0) (.node (nU 0) (.node (nU 0) (lA (nU 0) 15) (fA 16)) (lA (nU 0) 16)) (.node (nU 0) (lA (nU 0) 16) (lA (nU 0) 16)))) (.node (nU
  0) (.node (nU 0) (.node (nU 0) (.node (nU 1088) (lA (nU 0) 15) (fA 16)) (lA (nU 0) 16)) (.node (nU 0) (lA (nU 0) 16) (lA (nU 0) 16))) (.node (nU 0) (.node (nU 0) (.node (nU 0) (lA
  (nU 0) 15) (fA 16)) (lA (nU 0) 16)) (.node (nU 0) (lA (nU 0) 16) (lA (nU 0) 16)))))) (.node (nU 0) (.node (nU 0) (.node (nU 0) (.node (nU 0) (.node (nU 0) (.node (nU 0) (lA (nU 0)
  15) (fA 16)) (lA (nU 0) 16)) (.node (nU 0) (.node (nU 0) (lA (nU 0) 15) (fA 16)) (lA (nU 0) 16))) (.node (nU 0) (.node (nU 0) (.node (nU 0) (lA (nU 0) 15) (fA 16)) (lA (nU 0) 16))
  (.node (nU 0) (lA (nU 0) 16) (lA (nU 0) 16)))) (.node (nU 0) (.node (nU 0) (.node (nU 0) (.node (nU 0) (lA (nU 0) 15) (fA 16)) (lA (nU 0) 16)) (.node (nU 0) (lA (nU 0) 16) (lA (nU
  0) 16))) (.node (nU 0) (.node (nU 0) (.node (nU 0) (lA (nU 0) 15) (fA 16)) (lA (nU 0) 16)) (.node (nU 0) (lA (nU 0) 16) (lA (nU 0) 16))))) (.node (nU 0) (.node (nU 0) (.node (nU 0)
  (.node (nU 0) (.node (nU 0) (lA (nU 0) 15) (fA 16)) (lA (nU 0) 16)) (.node (nU 0) (.node (nU 0) (lA (nU 0) 15) (fA 16)) (lA (nU 0) 16))) (.node (nU 0) (.node (nU 0) (.node (nU 0)
  (lA (nU 0) 15) (fA 16)) (lA (nU 0) 16)) (.node (nU 0) (lA (nU 0) 16) (lA (nU 0) 16)))) (.node (nU 0) (.node (nU 0) (.node (nU 0) (.node (nU 0) (lA (nU 0) 15) (fA 16)) (lA (nU 0)
  16)) (.node (nU 0) (lA (nU 0) 16) (lA (nU 0) 16))) (.node (nU 0) (.node (nU 0) (.node (nU 0) (lA (nU 0) 15) (fA 16)) (lA (nU 0) 16)) (.node (nU 0) (lA (nU 0) 16) (lA (nU 0)
  16)))))))) false false) 10))) (fD 13)) (fD 14))) (fD 16)) (fD 17))) (.node .dead (fD 18) (.node .dead (.node .dead (.node .dead (fD 15) (.node .dead (fD 14) (.node .dead (.node
  .dead (.node .dead (lD (.cells 211 3 3 (.node (.ptr 192 0) (lA (.ptr 8938 0) 22) (lA (.ptr 9014 0) 22)) true false) 10) (fD 11)) (fD 12)) (fD 13)))) (fD 16)) (fD 17))))) (.node
  .dead (.node .dead (.node .dead (fD 18) (lD (.cells 99 3 3 (.node .nilsl (lA .nilsl 22) (lA (.bool false) 22)) false false) 17)) (.node .dead (.node .dead (fD 17) (.node .dead (fD
  16) (.node .dead (.node .dead (fD 14) (.node .dead (fD 13) (.node .dead (.node .dead (fD 11) (lD (.cells 3 1 1 (lA (nI 8) 23) true false) 10)) (fD 12)))) (fD 15)))) (fD 18)))
  (.node .dead (.node .dead (.node .dead (fD 17) (.node .dead (.node .dead (.node .dead (fD 14) (.node .dead (.node .dead (.node .dead (fD 11) (lD (.cells 49 10 10 (.node (nI 7)
  (.node (nI 0) (.node (nU 0) (lA (nU 0) 20) (fA 21)) (.node (nI 0) (lA .nilsl 20) (fA 21))) (.node (nI 0) (.node (nU 0) (lA (nI 0) 20) (fA 21)) (lA (.str (bs [])) 21))) true false)
  10)) (fD 12)) (.node .dead (.node .dead (lD (.cells 242 9 9 (.node (.ptr 9015 0) (.node (.ptr 9030 0) (.node (.fn (.func 126) [(.ptr 9803 0)] []) (lA (.bool false) 20) (fA 21)) (lA
  .nilsl 21)) (.node .nil (.node .nilsl (lA (nI 0) 20) (fA 21)) (lA .nilsl 21))) true false) 10) (fD 11)) (fD 12)))) (fD 15)) (fD 16))) (fD 18)) (.node (.cells 5 1 64 (fB 24) true
  false) (fD 18) (.node .dead (.node .dead (.node .dead (fD 15) (.node .dead (fD 14) (.node .dead (.node .dead (.node .dead (lD o44 10) (fD 11)) (fD 12)) (fD 13)))) (fD 16)) (fD
  17)))))) (.node .dead (.node .dead (.node .dead (lD (.cells 5 1 64 (fB 24) true false) 18) (.node .dead (.node .dead (fD 17) (.node .dead (.node .dead (fD 15) (.node .dead (fD 14)
  (lD (.cells 106 12 12 (.node (nI 1) (.node (nI 0) (.node (nI 0) (lA (.str (bs [])) 20) (lA (nI 0) 20)) (.node (nU 0) (lA (nI 0) 20) (fA 21))) (.node (nI 0) (.node (nU 0) (lA (nU 0)
  20) (fA 21)) (.node (nI 0) (lA .nilsl 20) (fA 21)))) true false) 13))) (.node .dead (.node .dead (fD 14) (.node .dead (fD 13) (.node .dead (.node .dead (fD 11) (lD (.cells 87 1 1
  (lA (.sl 14631 0 0 297 (.u 14631 0)) 23) true false) 10)) (fD 12)))) (fD 15)))) (fD 18))) (.node .dead (.node .dead (.node .dead (fD 17) (.node .dead (.node .dead (.node .dead (fD
  14) (.node .dead (.node .dead (.node .dead (fD 11) (lD (.map [⟨(nI 1), (.fn (.func 33) [] []), 0⟩, ⟨(nI 2), (.fn (.func 34) [] []), 1⟩, ⟨(nI 3), (.fn (.func 35) [] []), 2⟩, ⟨(nI
  4), (.fn (.func 36) [] []), 3⟩, ⟨(nI 5), (.fn (.func 37) [] []), 4⟩, ⟨(nI 6), (.fn (.func 38) [] []), 5⟩, ⟨(nI 7), (.fn (.func 39) [] []), 6⟩] 7) 10)) (fD 12)) (fD 13))) (fD 15))
  (fD 16))) (.node .dead (fD 17) (.node .dead (fD 16) (.node .dead (.node .dead (fD 14) (.node .dead (.node .dead (.node .dead (lD (.map [⟨(nU 1088), (nI 2), 0⟩] 1) 10) (fD 11)) (fD
  12)) (fD 13))) (fD 15))))) (.node .dead (fD 18) (.node .dead (.node .dead (.node .dead (fD 15) (.node .dead (fD 14) (.node .dead (.node .dead (.node .dead (lD (.cells 198 4 4
  (.node (.ptr 9015 0) (.node (.sl 9016 0 0 1 (.k 1)) (lA (nI 0) 21) (fA 22)) (lA .nilsl 22)) true false) 10) (fD 11)) (fD 12)) (fD 13)))) (fD 16)) (fD 17))))) (.node .dead (.node
  .dead (.node .dead (.node .dead (fD 17) (.node .dead (fD 16) (.node .dead (fD 15) (lD o15 14)))) (fD 18)) (.node .dead (.node (.cells 31 10 10 (.node (.ptr 61 0) (.node (nI 1)
  (.node (nI 0) (lA .nil 20) (fA 21)) (.node (.bool false) (lA .nilfn 20) (fA 21))) (.node (nI 1) (.node .nilsl (lA .nil 20) (fA 21)) (lA .nilsl 21))) true false) (fD 17) (.node
  .dead (fD 16) (.node .dead (.node .dead (fD 14) (.node .dead (fD 13) (.node .dead (.node .dead (fD 11) (lD o67 10)) (fD 12)))) (fD 15)))) (.node .dead (.node .dead (.node .dead (fD
  15) (.node .dead (fD 14) (.node .dead (.node .dead (.node .dead (lD (.map [] 0) 10) (fD 11)) (fD 12)) (fD 13)))) (fD 16)) (fD 17)))) (.node .dead (.node .dead (.node .dead (fD 17)
  (.node .dead (.node .dead (.node .dead (fD 14) (.node .dead (.node .dead (.node .dead (fD 11) (lD o15 10)) (fD 12)) (.node .dead (.node .dead (lD o47 10) (fD 11)) (fD 12)))) (fD
  15)) (.node .dead (.node .dead (fD 14) (.node .dead (fD 13) (.node .dead (.node .dead (fD 11) (lD o39 10)) (fD 12)))) (fD 15)))) (.node .dead (fD 17) (.node .dead (fD 16) (.node
  .dead (.node .dead (fD 14) (.node .dead (.node .dead (.node .dead (lD (.cells 348 1 1 (lA .nilsl 23) true false) 10) (fD 11)) (fD 12)) (fD 13))) (fD 15))))) (.node (.cells 114 7 7
  (.node (.sl 84 0 0 8 (.u 84 0)) (.node (.sl 82 0 0 8 (.u 82 0)) (lA (nU 0) 21) (lA (nU 0) 21)) (.node (.map 60) (lA (nU 0) 21) (lA (nU 0) 21))) true false) (.node o1 (.node .dead
  (.node .dead (fD 15) (.node .dead (fD 14) (.node .dead (.node .dead (.node .dead (lD (.cells 46 1 5 (.node (nU 1280) (.node (nU 1664) (lA (nU 1856) 21) (fA 22)) (.node (nU 1472)
  (lA (nU 1088) 21) (fA 22))) false false) 10) (fD 11)) (fD 12)) (fD 13)))) (fD 16)) (fD 17)) (.node .dead (.node .dead (.node .dead (fD 15) (.node .dead (fD 14) (.node .dead (.node
  .dead (.node .dead (lD (.cells 49 10 10 (.node (nI 6) (.node (nI 0) (.node (nU 0) (lA (nU 0) 20) (fA 21)) (.node (nI 0) (lA .nilsl 20) (fA 21))) (.node (nI 0) (.node (nU 0) (lA (nI
  0) 20) (fA 21)) (lA (.str (bs [])) 21))) true false) 10) (fD 11)) (fD 12)) (fD 13)))) (fD 16)) (fD 17))))))) (.node .dead (.node .dead (.node .dead (.node .dead (.node .dead (.node
  .dead (fD 17) (lD (.cells 114 7 7 (.node (.sl 967 0 0 384 (.u 967 0)) (.node (.sl 965 0 0 384 (.u 965 0)) (lA (nU 768) 21) (lA (nU 0) 21)) (.node (.map 191) (lA (nU 0) 21) (lA (nU
  0) 21))) true false) 16)) (fD 18)) (.node .dead (.node .dead (fD 17) (.node .dead (fD 16) (.node .dead (.node .dead (fD 14) (.node .dead (fD 13) (.node .dead (.node .dead (fD 11)
  (lD (.cells 33 1 1 (lA (nI 0) 23) true false) 10)) (fD 12)))) (fD 15)))) (fD 18))) (.node .dead (.node .dead (.node .dead (fD 17) (.node .dead (.node .dead (.node .dead (fD 14)
  (.node .dead (.node .dead (.node .dead (fD 11) (lD o1 10)) (fD 12)) (fD 13))) (fD 15)) (.node .dead (fD 15) (lD o52 14)))) (.node .dead (fD 17) (.node .dead (fD 16) (.node .dead
  (.node .dead (fD 14) (.node .dead (.node .dead (.node .dead (lD (.cells 298 2 6 (.node (nI 0) (.node (nU 0) (lA (nU 1) 21) (lA (nU 0) 21)) (.node (nI 3) (lA (nI 0) 21) (fA 22)))
  true false) 10) (fD 11)) (fD 12)) (fD 13))) (fD 15))))) (.node .dead (fD 18) (.node .dead (.node .dead (.node .dead (fD 15) (.node .dead (fD 14) (.node .dead (.node .dead (.node
  .dead (lD (.cells 204 2 2 (.node .nilif (lA (nI 0) 22) (fA 23)) true false) 10) (fD 11)) (fD 12)) (fD 13)))) (fD 16)) (fD 17))))) (.node .dead (.node .dead (.node .dead (fD 18) (lD
  o7 17)) (.node .dead (.node (.cells 43 1 8 (.node (nU 0) (.node (nU 0) (.node (nU 0) (lA (nU 0) 20) (fA 21)) (lA (nU 0) 21)) (.node (nU 0) (lA (nU 0) 21) (lA (nU 0) 21))) false
  false) (fD 17) (.node .dead (fD 16) (.node .dead (.node .dead (fD 14) (.node .dead (fD 13) (.node .dead (.node .dead (fD 11) (lD (.defd (some [])) 10)) (fD 12)))) (fD 15)))) (fD
  18))) (.node .dead (.node .dead (.node .dead (fD 17) (.node .dead (.node .dead (.node .dead (fD 14) (.node .dead (.node .dead (.node .dead (fD 11) (lD (.cells 43 1 1 (lA (nU 0) 23)
  true false) 10)) (fD 12)) (.node .dead (.node .dead (lD (.cells 174 1 1 (lA (.ptr 9803 0) 23) true false) 10) (fD 11)) (fD 12)))) (fD 15)) (fD 16))) (.node .dead (fD 17) (.node
  .dead (fD 16) (.node .dead (.node .dead (fD 14) (.node .dead (.node .dead (.node .dead (lD (.cells 348 1 1 (lA .nilsl 23) true false) 10) (fD 11)) (fD 12)) (fD 13))) (fD 15)))))
  (.node (.map [] 0) (fD 18) (.node .dead (.node .dead (.node .dead (fD 15) (.node .dead (fD 14) (.node .dead (.node .dead (.node .dead (lD (.cells 106 12 12 (.node (nI 2) (.node (nI
  0) (.node (nI 0) (lA (.str (bs [])) 20) (lA (nI 0) 20)) (.node (nU 0) (lA (nI 0) 20) (fA 21))) (.node (nI 0) (.node (nU 0) (lA (nU 0) 20) (fA 21)) (.node (nI 0) (lA .nilsl 20) (fA
  21)))) true false) 10) (fD 11)) (fD 12)) (fD 13)))) (fD 16)) (fD 17)))))) (.node o1 (.node .dead (.node .dead (.node .dead (.node .dead (fD 17) (.node .dead (.node .dead (fD 15)
  (.node .dead (fD 14) (.node .dead (.node .dead (.node .dead (lD (.cells 22 1 1 (lA (.ptr 968 0) 23) true false) 10) (fD 11)) (fD 12)) (fD 13)))) (fD 16))) (fD 18)) (.node .dead
  (.node (.cells 43 1 8 (.node (nU 0) (.node (nU 0) (.node (nU 0) (lA (nU 0) 20) (fA 21)) (lA (nU 0) 21)) (.node (nU 0) (lA (nU 0) 21) (lA (nU 0) 21))) false false) (fD 17) (.node
  .dead (fD 16) (.node .dead (.node .dead (fD 14) (.node .dead (fD 13) (.node .dead (.node .dead (fD 11) (lD (.cells 52 1 1 (lA (.sl 14029 0 0 3072 (.u 14029 0)) 23) true false) 10))
  (fD 12)))) (fD 15)))) (fD 18))) (.node .dead (.node .dead (.node .dead (fD 17) (.node .dead (.node .dead (.node .dead (fD 14) (.node .dead (.node .dead (.node .dead (fD 11) (lD o50
  10)) (fD 12)) (.node .dead (.node .dead (lD o19 10) (fD 11)) (fD 12)))) (fD 15)) (fD 16))) (.node .dead (fD 17) (.node .dead (fD 16) (.node .dead (.node .dead (fD 14) (.node .dead
  (.node .dead (.node .dead (lD (.cells 294 7 7 (.node (nI 3072) (.node (.sl 8936 0 0 3 (.k 3)) (lA (.ptr 8941 0) 21) (lA (.ptr 8943 0) 21)) (.node (.ptr 8940 0) (lA (.ptr 8942 0)
  21) (lA (.map 8937) 21))) true false) 10) (fD 11)) (fD 12)) (fD 13))) (fD 15))))) (fD 19))) (.node .dead (.node .dead (.node .dead (.node .dead (fD 17) (.node .dead (.node .dead
  (.node .dead (fD 14) (.node .dead (.node .dead (.node .dead (fD 11) (lD o51 10)) (fD 12)) (fD 13))) (.node .dead (fD 14) (.node .dead (.node .dead (.node .dead (lD o54 10) (fD 11))
  (fD 12)) (fD 13)))) (fD 16))) (fD 18)) (.node .dead (fD 18) (.node .dead (.node .dead (.node .dead (fD 15) (.node .dead (fD 14) (.node .dead (.node .dead (.node .dead (lD o45 10)
  (fD 11)) (fD 12)) (fD 13)))) (fD 16)) (fD 17)))) (.node .dead (.node .dead (.node .dead (fD 17) (.node .dead (.node .dead (.node .dead (fD 14) (.node .dead (fD 13) (.node .dead
  (.node .dead (lD o1 10) (fD 11)) (fD 12)))) (fD 15)) (.node .dead (.node .dead (fD 14) (.node .dead (fD 13) (.node .dead (.node .dead (fD 11) (lD (.cells 52 1 1 (lA (.sl 14029 0 0
  3072 (.u 14029 0)) 23) true false) 10)) (fD 12)))) (fD 15)))) (.node .dead (fD 17) (.node .dead (fD 16) (.node .dead (.node .dead (fD 14) (.node .dead (.node .dead (.node .dead (lD
  (.cells 348 1 1 (lA .nilsl 23) true false) 10) (fD 11)) (fD 12)) (fD 13))) (fD 15))))) (fD 19)))))), 14632⟩,
  [.lp (codeAt Tryz.f80 [1, 0, 0]), .blk 0]⟩
/-- where the run stands at the end of part 34 -/
noncomputable def s34 : St :=
  ⟨⟨44, 103, [], .normal, none,
  [o65,
    o64,
    o69,
    o56,
    o55,
    o58,
    o49,
    o57,
    o61,
    o59,
    o48,
    o46,
    o6]⟩,
  .run,
  (.node (.ptr 14030 0)
  (.node (.ptr 14031 0) (.node undefV (.node undefV (.node (.ptr 14808 0) (lU (.agg [.nilsl, (.sl 14905 0 0 1 (.u 14905 0)), .nilsl, .nilsl, (nI 0), (nI 0)]) 18) (fU 19)) (lU (.fn
  (.func 90) [] [(.ptr 14899 0)]) 19)) (.node undefV (.node (.ptr 14808 0) (lU (.sl 14886 0 0 1 (.u 14886 0)) 18) (fU 19)) (lU (.ptr 14808 4) 19))) (.node undefV (.node undefV (.node
  (.ptr 14808 5) (lU (.ptr 14808 0) 18) (fU 19)) (lU (.ptr 14808 0) 19)) (.node (.sl 14029 0 0 3072 (.u 14029 0)) (.node (.ptr 14808 3) (lU (nI 0) 18) (fU 19)) (lU (nI 1) 19))))
  (.node (.ptr 14898 0) (.node undefV (.node undefV (.node (.ptr 14808 0) (lU (.ptr 14808 0) 18) (fU 19)) (lU (.sl 14905 0 0 1 (.u 14905 0)) 19)) (.node undefV (.node (.ptr 14808 0)
  (lU (nI 1) 18) (fU 19)) (lU (.sl 14886 0 0 1 (.u 14886 0)) 19))) (.node undefV (.node undefV (.node .nilsl (lU (.ptr 14808 4) 18) (fU 19)) (lU (.ptr 14808 0) 19)) (.node (.ptr
  14808 0) (lU (.map 14807) 19) (lU (nI 0) 19))))),
  ⟨(.node (.cells 31 10 10 (.node .nil (.node (nI 0) (.node (nI 0) (lA .nil 20) (fA 21)) (.node (.bool false) (lA .nilfn 20) (fA
  21))) (.node (nI 0) (.node .nilsl (lA .nil 20) (fA 21)) (lA .nilsl 21))) true false) (.node .dead (.node o1 (.node (.cells 5 1 64 (fB 24) true false) (.node .dead (.node .dead
  (.node .dead (fD 17) (lD (.map [] 0) 16)) (fD 18)) (.node .dead (.node .dead (fD 17) (.node .dead (fD 16) (.node .dead (.node .dead (fD 14) (.node .dead (fD 13) (.node .dead (.node
  .dead (fD 11) (lD (.cells 73 6 6 (.node .nilsl (.node (.sl 14905 0 0 1 (.u 14905 0)) (lA .nilsl 21) (lA (nI 0) 21)) (.node .nilsl (lA (nI 0) 21) (fA 22))) true false) 10)) (fD
  12)))) (fD 15)))) (.node .dead (fD 17) (.node .dead (fD 16) (.node .dead (.node .dead (fD 14) (.node .dead (.node .dead (.node .dead (lD (.cells 348 1 1 (lA (.sl 8989 0 0 4 (.u
  8989 0)) 23) true false) 10) (fD 11)) (fD 12)) (fD 13))) (fD 15)))))) (.node .dead (.node .dead (.node .dead (fD 17) (.node .dead (.node .dead (.node .dead (fD 14) (.node .dead
  (.node .dead (.node .dead (fD 11) (lD (.cells 49 10 10 (.node (nI 7) (.node (nI 0) (.node (nU 0) (lA (nU 0) 20) (fA 21)) (.node (nI 0) (lA .nilsl 20) (fA 21))) (.node (nI 0) (.node
  (nU 0) (lA (nI 0) 20) (fA 21)) (lA (.str (bs [])) 21))) true false) 10)) (fD 12)) (fD 13))) (fD 15)) (.node .dead (fD 15) (lD o15 14)))) (fD 18)) (.node .dead (.node .dead (.node
  .dead (.node .dead (.node .dead (fD 14) (.node .dead (.node .dead (fD 12) (.node .dead (fD 11) (lD (.cells 183 24 24 (.node (nI 0) (.node (nU 0) (.node (nU 0) (.node (nU 0) (lA (nU
  0) 19) (lA (.bool false) 19)) (.node (nU 0) (lA (nU 0) 19) (fA 20))) (.node (nU 0) (.node (nU 0) (lA (nU 0) 19) (fA 20)) (.node (nU 0) (lA (nU 1088) 19) (fA 20)))) (.node (nU 0)
  (.node (nU 1088) (.node (nU 0) (lA (nU 0) 19) (fA 20)) (.node (nU 0) (lA (nU 0) 19) (fA 20))) (.node (nU 0) (.node (nU 0) (lA (nU 0) 19) (fA 20)) (.node (nU 0) (lA (nU 0) 19) (fA
  20))))) false false) 10))) (fD 13))) (fD 15)) (fD 16)) (.node .dead (fD 16) (.node .dead (fD 15) (.node .dead (.node .dead (.node .dead (fD 12) (.node .dead (fD 11) (lD (.map [⟨(nU
  1088), (.agg []), 0⟩] 1) 10))) (fD 13)) (fD 14))))) (.node .dead (.node .dead (.node .dead (fD 15) (.node .dead (fD 14) (.node .dead (.node .dead (.node .dead (lD (.cells 211 3 3
  (.node (.ptr 192 0) (lA (.ptr 8938 0) 22) (lA (.ptr 9014 0) 22)) true false) 10) (fD 11)) (fD 12)) (fD 13)))) (fD 16)) (fD 17))))) (.node .dead (.node .dead (.node .dead (fD 18)
  (lD (.cells 99 3 3 (.node .nilsl (lA .nilsl 22) (lA (.bool false) 22)) false false) 17)) (.node .dead (fD 18) (.node .dead (.node .dead (.node .dead (.node .dead (fD 14) (.node
  .dead (.node .dead (fD 12) (.node .dead (fD 11) (lD (.cells 123 1 1 (lA (.map 14807) 23) true false) 10))) (fD 13))) (fD 15)) (fD 16)) (fD 17)))) (.node .dead (.node .dead (.node
  .dead (fD 17) (.node .dead (.node .dead (.node .dead (fD 14) (.node .dead (.node .dead (.node .dead (fD 11) (lD (.cells 49 10 10 (.node (nI 7) (.node (nI 0) (.node (nU 0) (lA (nU
  0) 20) (fA 21)) (.node (nI 0) (lA .nilsl 20) (fA 21))) (.node (nI 0) (.node (nU 0) (lA (nI 0) 20) (fA 21)) (lA (.str (bs [])) 21))) true false) 10)) (fD 12)) (.node .dead (.node
  .dead (lD (.cells 242 9 9 (.node (.ptr 9015 0) (.node (.ptr 9030 0) (.node (.fn (.func 126) [(.ptr 9803 0)] []) (lA (.bool false) 20) (fA 21)) (lA .nilsl 21)) (.node .nil (.node
  .nilsl (lA (nI 0) 20) (fA 21)) (lA .nilsl 21))) true false) 10) (fD 11)) (fD 12)))) (fD 15)) (fD 16))) (fD 18)) (.node (.cells 5 1 64 (fB 24) true false) (fD 18) (.node .dead
  (.node .dead (.node .dead (fD 15) (.node .dead (fD 14) (.node .dead (.node .dead (.node .dead (lD o44 10) (fD 11)) (fD 12)) (fD 13)))) (fD 16)) (fD 17)))))) (.node .dead (.node
  .dead (.node .dead (lD (.cells 5 1 64 (fB 24) true false) 18) (.node .dead (.node .dead (fD 17) (.node .dead (.node .dead (fD 15) (.node .dead (fD 14) (lD (.cells 106 12 12 (.node
  (nI 1) (.node (nI 0) (.node (nI 0) (lA (.str (bs [])) 20) (lA (nI 0) 20)) (.node (nU 0) (lA (nI 0) 20) (fA 21))) (.node (nI 0) (.node (nU 0) (lA (nU 0) 20) (fA 21)) (.node (nI 0)
  (lA .nilsl 20) (fA 21)))) true false) 13))) (fD 16))) (fD 18))) (.node .dead (.node .dead (.node .dead (fD 17) (.node .dead (.node .dead (.node .dead (fD 14) (.node .dead (.node
  .dead (.node .dead (fD 11) (lD (.map [⟨(nI 1), (.fn (.func 33) [] []), 0⟩, ⟨(nI 2), (.fn (.func 34) [] []), 1⟩, ⟨(nI 3), (.fn (.func 35) [] []), 2⟩, ⟨(nI 4), (.fn (.func 36) []
  []), 3⟩, ⟨(nI 5), (.fn (.func 37) [] []), 4⟩, ⟨(nI 6), (.fn (.func 38) [] []), 5⟩, ⟨(nI 7), (.fn (.func 39) [] []), 6⟩] 7) 10)) (fD 12)) (fD 13))) (fD 15)) (fD 16))) (.node .dead
  (fD 17) (.node .dead (fD 16) (.node .dead (.node .dead (fD 14) (.node .dead (.node .dead (.node .dead (lD (.map [⟨(nU 1088), (nI 2), 0⟩] 1) 10) (fD 11)) (fD 12)) (fD 13))) (fD
  15))))) (.node .dead (fD 18) (.node .dead (.node .dead (.node .dead (.node .dead (fD 14) (.node .dead (.node .dead (fD 12) (.node .dead (fD 11) (lD (.cells 46 1 1 (lA (nU 1088) 23)
  false false) 10))) (fD 13))) (.node .dead (fD 14) (.node .dead (.node .dead (.node .dead (lD (.cells 198 4 4 (.node (.ptr 9015 0) (.node (.sl 9016 0 0 1 (.k 1)) (lA (nI 0) 21) (fA
  22)) (lA .nilsl 22)) true false) 10) (fD 11)) (fD 12)) (fD 13)))) (fD 16)) (fD 17))))) (.node .dead (.node .dead (.node .dead (.node .dead (fD 17) (.node .dead (fD 16) (.node .dead
  (fD 15) (lD o15 14)))) (fD 18)) (.node .dead (.node (.cells 31 10 10 (.node (.ptr 61 0) (.node (nI 1) (.node (nI 0) (lA .nil 20) (fA 21)) (.node (.bool false) (lA .nilfn 20) (fA
  21))) (.node (nI 1) (.node .nilsl (lA .nil 20) (fA 21)) (lA .nilsl 21))) true false) (fD 17) (.node .dead (fD 16) (.node .dead (fD 15) (.node .dead (.node .dead (.node .dead (fD
  12) (.node .dead (fD 11) (lD o15 10))) (fD 13)) (fD 14))))) (.node .dead (.node .dead (.node .dead (fD 15) (.node .dead (fD 14) (.node .dead (.node .dead (.node .dead (lD (.map []
  0) 10) (fD 11)) (fD 12)) (fD 13)))) (fD 16)) (fD 17)))) (.node .dead (.node .dead (.node .dead (fD 17) (.node .dead (.node .dead (.node .dead (fD 14) (.node .dead (.node .dead
  (.node .dead (fD 11) (lD o15 10)) (fD 12)) (.node .dead (.node .dead (lD o47 10) (fD 11)) (fD 12)))) (fD 15)) (.node .dead (.node .dead (fD 14) (.node .dead (fD 13) (.node .dead
  (.node .dead (fD 11) (lD o39 10)) (fD 12)))) (fD 15)))) (.node .dead (fD 17) (.node .dead (fD 16) (.node .dead (.node .dead (fD 14) (.node .dead (.node .dead (.node .dead (lD
  (.cells 348 1 1 (lA .nilsl 23) true false) 10) (fD 11)) (fD 12)) (fD 13))) (fD 15))))) (.node (.cells 114 7 7 (.node (.sl 84 0 0 8 (.u 84 0)) (.node (.sl 82 0 0 8 (.u 82 0)) (lA
  (nU 0) 21) (lA (nU 0) 21)) (.node (.map 60) (lA (nU 0) 21) (lA (nU 0) 21))) true false) (.node o1 (.node .dead (.node .dead (fD 15) (.node .dead (fD 14) (.node .dead (.node .dead
  (.node .dead (lD (.cells 46 1 5 (.node (nU 1280) (.node (nU 1664) (lA (nU 1856) 21) (fA 22)) (.node (nU 1472) (lA (nU 1088) 21) (fA 22))) false false) 10) (fD 11)) (fD 12)) (fD
  13)))) (fD 16)) (fD 17)) (.node .dead (.node .dead (.node .dead (fD 15) (.node .dead (fD 14) (.node .dead (.node .dead (.node .dead (lD (.cells 49 10 10 (.node (nI 6) (.node (nI 0)
  (.node (nU 0) (lA (nU 0) 20) (fA 21)) (.node (nI 0) (lA .nilsl 20) (fA 21))) (.node (nI 0) (.node (nU 0) (lA (nI 0) 20) (fA 21)) (lA (.str (bs [])) 21))) true false) 10) (fD 11))
  (fD 12)) (fD 13)))) (fD 16)) (fD 17))))))) (.node .dead (.node .dead (.node .dead (.node .dead (.node .dead (.node .dead (fD 17) (lD (.cells 114 7 7 (.node (.sl 967 0 0 384 (.u 967
  0)) (.node (.sl 965 0 0 384 (.u 965 0)) (lA (nU 768) 21) (lA (nU 0) 21)) (.node (.map 191) (lA (nU 0) 21) (lA (nU 0) 21))) true false) 16)) (fD 18)) (.node .dead (.node .dead (fD
  17) (.node .dead (fD 16) (.node .dead (.node .dead (fD 14) (.node .dead (fD 13) (.node .dead (.node .dead (fD 11) (lD (.cells 33 1 1 (lA (nI 0) 23) true false) 10)) (fD 12)))) (fD
  15)))) (fD 18))) (.node .dead (.node .dead (.node .dead (fD 17) (.node .dead (.node .dead (.node .dead (fD 14) (.node .dead (.node .dead (.node .dead (fD 11) (lD o1 10)) (fD 12))
  (fD 13))) (fD 15)) (.node .dead (fD 15) (lD o52 14)))) (.node .dead (fD 17) (.node .dead (fD 16) (.node .dead (.node .dead (fD 14) (.node .dead (.node .dead (.node .dead (lD
  (.cells 298 2 6 (.node (nI 0) (.node (nU 0) (lA (nU 1) 21) (lA (nU 0) 21)) (.node (nI 3) (lA (nI 0) 21) (fA 22))) true false) 10) (fD 11)) (fD 12)) (fD 13))) (fD 15))))) (.node
  .dead (.node .dead (fD 17) (.node .dead (fD 16) (.node .dead (fD 15) (.node .dead (.node .dead (.node .dead (fD 12) (.node .dead (fD 11) (lD (.cells 126 6 6 (.node (.sl 14805 0 0
  384 (.u 14805 0)) (.node (.sl 14806 0 0 3 (.k 3)) (lA (.map 14807) 21) (lA .nilsl 21)) (.node (nU 1088) (lA (.sl 14886 0 0 1 (.u 14886 0)) 21) (fA 22))) true false) 10))) (fD 13))
  (fD 14))))) (.node .dead (.node .dead (.node .dead (fD 15) (.node .dead (fD 14) (.node .dead (.node .dead (.node .dead (lD (.cells 204 2 2 (.node .nilif (lA (nI 0) 22) (fA 23))
  true false) 10) (fD 11)) (fD 12)) (fD 13)))) (fD 16)) (fD 17))))) (.node .dead (.node .dead (.node .dead (fD 18) (lD o7 17)) (.node .dead (lD (.cells 43 1 8 (.node (nU 0) (.node
  (nU 0) (.node (nU 0) (lA (nU 0) 20) (fA 21)) (lA (nU 0) 21)) (.node (nU 0) (lA (nU 0) 21) (lA (nU 0) 21))) false false) 17) (fD 18))) (.node .dead (.node .dead (.node .dead (fD 17)
  (.node .dead (.node .dead (.node .dead (fD 14) (.node .dead (.node .dead (.node .dead (fD 11) (lD (.cells 43 1 1 (lA (nU 0) 23) true false) 10)) (fD 12)) (.node .dead (.node .dead
  (lD (.cells 174 1 1 (lA (.ptr 9803 0) 23) true false) 10) (fD 11)) (fD 12)))) (fD 15)) (fD 16))) (.node .dead (fD 17) (.node .dead (fD 16) (.node .dead (.node .dead (fD 14) (.node
  .dead (.node .dead (.node .dead (lD (.cells 348 1 1 (lA .nilsl 23) true false) 10) (fD 11)) (fD 12)) (fD 13))) (fD 15))))) (.node (.map [] 0) (fD 18) (.node .dead (.node .dead
  (.node .dead (fD 15) (.node .dead (fD 14) (.node .dead (.node .dead (.node .dead (lD (.cells 106 12 12 (.node (nI 2) (.node (nI 0) (.node (nI 0) (lA (.str (bs [])) 20) (lA (nI 0)
  20)) (.node (nU 0) (lA (nI 0) 20) (fA 21))) (.node (nI 0) (.node (nU 0) (lA (nU 0) 20) (fA 21)) (.node (nI 0) (lA .nilsl 20) (fA 21)))) true false) 10) (fD 11)) (fD 12)) (fD 13))))
  (fD 16)) (fD 17)))))) (.node o1 (.node .dead (.node .dead (.node .dead (.node .dead (fD 17) (.node .dead (.node .dead (fD 15) (.node .dead (fD 14) (.node .dead (.node .dead (.node
  .dead (lD (.cells 22 1 1 (lA (.ptr 968 0) 23) true false) 10) (fD 11)) (fD 12)) (fD 13)))) (fD 16))) (fD 18)) (.node .dead (lD (.cells 43 1 8 (.node (nU 0) (.node (nU 0) (.node (nU
  0) (lA (nU 0) 20) (fA 21)) (lA (nU 0) 21)) (.node (nU 0) (lA (nU 0) 21) (lA (nU 0) 21))) false false) 17) (.node .dead (.node .dead (.node .dead (.node .dead (fD 14) (.node .dead
  (.node .dead (fD 12) (.node .dead (fD 11) (lD (.cells 120 1 1 (lA (.ptr 14808 0) 23) true false) 10))) (fD 13))) (fD 15)) (fD 16)) (fD 17)))) (.node .dead (.node .dead (.node .dead
  (fD 17) (.node .dead (.node .dead (.node .dead (fD 14) (.node .dead (.node .dead (.node .dead (fD 11) (lD o50 10)) (fD 12)) (.node .dead (.node .dead (lD o19 10) (fD 11)) (fD
  12)))) (fD 15)) (fD 16))) (.node .dead (fD 17) (.node .dead (fD 16) (.node .dead (.node .dead (fD 14) (.node .dead (.node .dead (.node .dead (lD (.cells 294 7 7 (.node (nI 3072)
  (.node (.sl 8936 0 0 3 (.k 3)) (lA (.ptr 8941 0) 21) (lA (.ptr 8943 0) 21)) (.node (.ptr 8940 0) (lA (.ptr 8942 0) 21) (lA (.map 8937) 21))) true false) 10) (fD 11)) (fD 12)) (fD
  13))) (fD 15))))) (fD 19))) (.node .dead (.node .dead (.node .dead (.node .dead (fD 17) (.node .dead (.node .dead (.node .dead (fD 14) (.node .dead (.node .dead (.node .dead (fD
  11) (lD o51 10)) (fD 12)) (fD 13))) (.node .dead (fD 14) (.node .dead (.node .dead (.node .dead (lD o54 10) (fD 11)) (fD 12)) (fD 13)))) (fD 16))) (.node .dead (.node .dead (.node
  .dead (.node .dead (fD 14) (.node .dead (.node .dead (fD 12) (.node .dead (fD 11) (lD (.cells 132 1 1 (lA (.sl 14871 0 0 1 (.u 14871 0)) 23) false false) 10))) (fD 13))) (fD 15))
  (fD 16)) (fD 17))) (.node .dead (.node .dead (fD 17) (.node .dead (fD 16) (.node .dead (fD 15) (.node .dead (.node .dead (.node .dead (fD 12) (.node .dead (fD 11) (lD (.cells 135 2
  6 (.node (nI 0) (.node (nU 0) (lA (nU 1) 21) (lA (nU 0) 21)) (.node (nI 3) (lA (nI 0) 21) (fA 22))) true false) 10))) (fD 13)) (fD 14))))) (.node .dead (.node .dead (.node .dead
  (fD 15) (.node .dead (fD 14) (.node .dead (.node .dead (.node .dead (lD o45 10) (fD 11)) (fD 12)) (fD 13)))) (fD 16)) (fD 17)))) (.node .dead (.node .dead (.node .dead (fD 17)
  (.node .dead (.node .dead (.node .dead (fD 14) (.node .dead (fD 13) (.node .dead (.node .dead (lD o1 10) (fD 11)) (fD 12)))) (fD 15)) (.node .dead (.node .dead (fD 14) (.node .dead
  (fD 13) (.node .dead (.node .dead (fD 11) (lD (.cells 52 1 1 (lA (.sl 14029 0 0 3072 (.u 14029 0)) 23) true false) 10)) (fD 12)))) (fD 15)))) (.node .dead (fD 17) (.node .dead (fD
  16) (.node .dead (.node .dead (fD 14) (.node .dead (.node .dead (.node .dead (lD (.cells 348 1 1 (lA .nilsl 23) true false) 10) (fD 11)) (fD 12)) (fD 13))) (fD 15))))) (fD
  19)))))), 14906⟩,
  [.code (codeAt Tryz.f44 [1, 1, 0, 1]), .code (codeAt Tryz.f44 [1, 1, 1])]⟩
end Go.Proofs.YtakcddbpblookaaGreat.engineNil
