/-
  MADE HERE: the states between the parts of the run (printed by a program).
  Conditions: none.
-/
import Derived.Test.YtakcddbpblookaaGreatEngineNilAt3
namespace Go.Proofs.YtakcddbpblookaaGreat.engineNil
open Go.Lev
/-- where the run stands at the end of part 35 -/
noncomputable def s35 : St :=
  ⟨⟨60, 30, [], .normal, none,
  [⟨32, 104, [], .normal, none, .run, (.node (.ptr 968 0) (.node (.sl 9019 0 0 3 (.k 3)) (.node undefV (.node (.ptr 9805 0) (.node (nI 3) (.node (.bool
  false) (fU 18) (lU (nI 0) 17)) (.node (.ptr 968 0) (lU (.bool true) 17) (fU 18))) (.node (.ptr 14961 0) (.node (.tup [(.agg [(nI 385), (nI 6), (nI 4), (nI 0), (nI 0), (nI 0),
  (.bool false), (nI 0), (.str (bs [])), .nilsl, (.bool false), (nI 0), (nI 0)]), (nI 0)]) (lU (nI 15) 17) (lU (.tup [(.agg [(nI 785), (nI 2), (nI 5), (nI 0), (nI 0), (nI 1), (.bool
  false), (nI 0), (.str (bs [])), .nilsl, (.bool false), (nI 0), (nI 0)]), (nI 0)]) 17)) (.node undefV (lU (nI 15) 17) (fU 18)))) (.node (.sl 15264 0 0 1 (.u 15264 0)) (.node (.sl
  9019 0 0 3 (.k 3)) (.node (.ptr 9020 0) (fU 18) (lU (nI 0) 17)) (.node (.bool false) (lU (nI 1) 17) (fU 18))) (.node (.ptr 968 0) (.node (.agg [(nI 385), (nI 6), (nI 4), (nI 0),
  (nI 0), (nI 0), (.bool false), (nI 0), (.str (bs [])), .nilsl, (.bool false), (nI 0), (nI 0)]) (lU (.bool true) 17) (fU 18)) (.node undefV (lU (nI 1) 17) (fU 18))))) (.node (.ptr
  14961 0) (.node undefV (.node (nI 1) (.node (.bool false) (fU 18) (lU (.ptr 968 0) 17)) (.node (nI 3136) (lU (.ptr 9017 0) 17) (fU 18))) (.node (.bool false) (.node (.agg [(nI 6),
  (nI 0), (nI 0), (nU 0), (nU 0), (nI 0), (.str (bs [])), (nU 0), (nI 0), .nilsl]) (lU (nI 400) 17) (fU 18)) (.node undefV (lU (.ptr 9017 0) 17) (fU 18)))) (.node (nI 2) (.node (.ptr
  9019 24) (.node (.bool true) (lU (.bool true) 17) (lU (nI 0) 17)) (.node undefV (lU (.bool true) 17) (fU 18))) (.node (.agg [(nI 1), (nI 0), (nI 2), (nU 5), (nU 0), (nI 0), (.str
  (bs [])), (nU 0), (nI 0), .nilsl]) (.node (nI 0) (lU (.bool true) 17) (fU 18)) (.node undefV (lU (nI 1) 17) (fU 18)))))) (.node undefV (.node (nI 2) (.node (nI 0) (.node (.bool
  true) (.node (.bool false) (fU 18) (lU (nI 1) 17)) (.node (.ptr 968 0) (lU (.ptr 968 0) 17) (fU 18))) (.node (nI 4) (.node (.ptr 968 0) (lU (.ptr 14961 11) 17) (fU 18)) (.node
  undefV (lU (.ptr 968 0) 17) (fU 18)))) (.node (nI 1) (.node (nI 2) (.node (nI 2) (fU 18) (lU (.ptr 15264 0) 17)) (.node (.bool false) (lU (.bool true) 17) (fU 18))) (.node (.ptr
  14940 1) (.node (nI 0) (lU (nI 15) 17) (fU 18)) (.node undefV (lU (.sl 15264 0 0 1 (.u 15264 0)) 17) (fU 18))))) (.node (.ptr 9021 0) (.node (nI 15) (.node (nI 2) (.node (.agg [(nI
  5), (nI 0), (nI 0), (nU 0), (nU 0), (nI 0), (.str (bs [])), (nU 0), (nI 0), .nilsl]) (fU 18) (lU (.sl 15264 0 0 1 (.u 15264 0)) 17)) (.node (.tup [(.agg [(nI 769), (nI 7), (nI 5),
  (nI 0), (nI 0), (nI 0), (.bool false), (nI 0), (.str (bs [])), .nilsl, (.bool true), (nI 0), (nI 0)]), (.bool true)]) (lU (.sl 15301 0 0 1 (.u 15301 0)) 17) (fU 18))) (.node (.bool
  false) (.node (.tup [(.agg [(nI 385), (nI 6), (nI 4), (nI 0), (nI 0), (nI 0), (.bool false), (nI 0), (.str (bs [])), .nilsl, (.bool false), (nI 0), (nI 0)]), (nI 0)]) (lU (.bool
  true) 17) (fU 18)) (.node undefV (lU (.sl 15264 0 0 1 (.u 15264 0)) 17) (fU 18)))) (.node (.sl 9019 0 0 3 (.k 3)) (.node (.agg [(nI 4), (nI 0), (nI 0), (nI 0), (nU 0), (nU 0), (nI
  0), (.str (bs [])), (nU 0), (nI 0), .nilsl, (nI 400)]) (.node (.ptr 9021 0) (lU (.bool true) 17) (lU (.agg [(nI 2), (nI 0), (nI 0), (nU 0), (nU 0), (nI 0), (.str (bs [])), (nU 0),
  (nI 0), .nilsl]) 17)) (.node undefV (lU (nI 14) 17) (fU 18))) (.node (.tup [(.agg [(nI 770), (nI 1), (nI 5), (nI 0), (nI 0), (nI 0), (.bool false), (nI 0), (.str (bs [])), .nilsl,
  (.bool false), (nI 0), (nI 0)]), (nI 0)]) (.node (.bool true) (lU (.bool true) 17) (fU 18)) (.node undefV (lU (.bool false) 17) (fU 18))))))), [.reg (opsAt Tryz.f32 [1, 0, 0, 1, 0,
  0, 1, 1, 0, 1, 1, 1, 1, 1, 1, 1, 0, 1, 0, 0, 1, 0, 0, 0]) ((opsAt Tryz.f32 [1, 0, 0, 1, 0, 0, 1, 1, 0, 1, 1, 1, 1, 1, 1, 1, 0, 1, 0, 0, 1, 0, 0, 0]).toList.drop 2), .code (codeAt
  Tryz.f32 [1, 0, 0, 1, 0, 0, 1, 1, 0, 1, 1, 1, 1, 1, 1, 1, 0, 1, 0, 0, 1, 0, 0, 1]), .blk 6, .code (codeAt Tryz.f32 [1, 0, 0, 1, 0, 0, 1, 1, 0, 1, 1, 1, 1, 1, 1, 1, 0, 1, 0, 0, 1,
  1]), .lp (codeAt Tryz.f32 [1, 0, 0, 1, 0, 0, 1, 1, 0, 1, 1, 1, 1, 1, 1, 1, 0, 1, 0, 0]), .blk 5, .blk 2, .blk 1, .code (codeAt Tryz.f32 [1, 0, 0, 1, 1]), .lp (codeAt Tryz.f32 [1,
  0, 0]), .blk 0]⟩,
    o46,
    o6]⟩,
  .run,
  (.node (.ptr 9017 0) (.node undefV (.node undefV (lU (.bool true) 20) (fU 21)) (fU 22)) (.node .nilsl (fU 22) (lU (.ptr 9017 0)
  21))),
  ⟨(.node (.cells 31 10 10 (.node .nil (.node (nI 0) (.node (nI 0) (lA .nil 20) (fA 21)) (.node (.bool false) (lA .nilfn 20) (fA 21))) (.node (nI 0) (.node .nilsl (lA .nil
  20) (fA 21)) (lA .nilsl 21))) true false) (.node .dead (.node o1 (.node (.cells 5 1 64 (fB 24) true false) (.node .dead (.node .dead (.node .dead (fD 17) (.node (.map [] 0) (fD 16)
  (.node .dead (fD 15) (.node .dead (fD 14) (.node .dead (.node .dead (fD 12) (.node .dead (fD 11) (lD (.cells 440 6 6 (.node (.ptr 192 0) (.node (nI 0) (lA (.bool true) 21) (lA (nI
  0) 21)) (.node (.sl 15294 0 0 3 (.u 15294 0)) (lA (.bool false) 21) (fA 22))) true false) 10))) (fD 13)))))) (fD 18)) (.node .dead (fD 18) (.node .dead (fD 17) (.node .dead (fD 16)
  (.node .dead (.node .dead (fD 14) (.node .dead (.node .dead (.node .dead (lD (.cells 348 1 1 (lA (.sl 8989 0 0 4 (.u 8989 0)) 23) true false) 10) (fD 11)) (fD 12)) (fD 13))) (fD
  15)))))) (.node .dead (.node .dead (.node .dead (fD 17) (.node .dead (fD 16) (.node .dead (fD 15) (lD o15 14)))) (fD 18)) (.node .dead (fD 18) (.node .dead (.node .dead (.node
  .dead (fD 15) (.node .dead (fD 14) (.node .dead (.node .dead (.node .dead (lD (.cells 211 3 3 (.node (.ptr 192 0) (lA (.ptr 8938 0) 22) (lA (.ptr 9014 0) 22)) true false) 10) (fD
  11)) (fD 12)) (fD 13)))) (fD 16)) (fD 17))))) (.node .dead (.node .dead (.node .dead (fD 18) (lD (.cells 99 3 3 (.node .nilsl (lA .nilsl 22) (lA (.bool false) 22)) false false)
  17)) (fD 19)) (.node .dead (.node .dead (.node .dead (fD 17) (.node .dead (.node .dead (.node .dead (fD 14) (.node .dead (fD 13) (.node .dead (.node .dead (lD (.cells 242 9 9
  (.node (.ptr 9015 0) (.node (.ptr 9030 0) (.node (.fn (.func 126) [(.ptr 9803 0)] []) (lA (.bool true) 20) (fA 21)) (lA .nilsl 21)) (.node .nil (.node .nilsl (lA (nI 0) 20) (fA
  21)) (lA .nilsl 21))) true false) 10) (fD 11)) (fD 12)))) (fD 15)) (fD 16))) (.node .dead (fD 17) (.node .dead (.node .dead (.node .dead (fD 14) (.node .dead (.node .dead (fD 12)
  (.node .dead (fD 11) (lD (.cells 331 34 34 (.node (.ptr 9015 0) (.node (nI 0) (.node (.ifc 412 (.ptr 15295 0)) (.node (nI 0) (.node (nU 0) (lA (nI 0) 18) (fA 19)) (lA (nU 0) 19))
  (.node (nU 1088) (lA (nU 0) 19) (lA (nU 0) 19))) (.node (nI 0) (.node (nU 0) (.node (nU 0) (lA .nilsl 18) (fA 19)) (lA (nU 0) 19)) (.node (nU 0) (lA (nU 0) 19) (lA (nI 0) 19))))
  (.node (nU 5) (.node (.fn (.func 284) [] [(.ptr 15291 0), (.ptr 15290 0)]) (.node (nU 0) (.node (nU 0) (lA (.str (bs [])) 18) (fA 19)) (lA (nU 0) 19)) (.node (nU 0) (lA (nU 0) 19)
  (lA (.str (bs [])) 19))) (.node (nU 1088) (.node (nU 0) (lA (nU 0) 19) (lA (nU 0) 19)) (.node (nU 0) (lA (nU 0) 19) (lA (.bool false) 19))))) true false) 10))) (fD 13))) (fD 15))
  (fD 16)))) (.node (.cells 5 1 64 (fB 24) true false) (fD 18) (.node .dead (.node .dead (.node .dead (fD 15) (.node .dead (fD 14) (.node .dead (.node .dead (.node .dead (lD o44 10)
  (fD 11)) (fD 12)) (fD 13)))) (.node .dead (fD 15) (.node .dead (fD 14) (.node .dead (.node .dead (fD 12) (.node .dead (fD 11) (lD (.cells 35 3 3 (.node (nI 5) (lA (.str (bs []))
  22) (lA .nilsl 22)) true false) 10))) (fD 13))))) (fD 17)))))) (.node .dead (.node .dead (.node .dead (lD (.cells 5 1 64 (fB 24) true false) 18) (.node .dead (.node .dead (fD 17)
  (.node .dead (.node .dead (fD 15) (.node .dead (fD 14) (lD (.cells 106 12 12 (.node (nI 1) (.node (nI 0) (.node (nI 0) (lA (.str (bs [])) 20) (lA (nI 0) 20)) (.node (nU 0) (lA (nI
  0) 20) (fA 21))) (.node (nI 0) (.node (nU 0) (lA (nU 0) 20) (fA 21)) (.node (nI 0) (lA .nilsl 20) (fA 21)))) true false) 13))) (fD 16))) (.node .dead (fD 17) (.node .dead (.node
  .dead (.node .dead (fD 14) (.node .dead (.node .dead (fD 12) (.node .dead (fD 11) (lD (.cells 106 12 12 (.node (nI 4) (.node (nI 0) (.node (nI 0) (lA (.str (bs [])) 20) (lA (nI
  400) 20)) (.node (nU 0) (lA (nI 0) 20) (fA 21))) (.node (nI 0) (.node (nU 0) (lA (nU 0) 20) (fA 21)) (.node (nI 0) (lA .nilsl 20) (fA 21)))) true false) 10))) (fD 13))) (fD 15))
  (fD 16))))) (.node .dead (.node .dead (fD 18) (.node .dead (fD 17) (.node .dead (fD 16) (.node .dead (.node .dead (fD 14) (.node .dead (.node .dead (.node .dead (lD (.map [⟨(nU
  1088), (nI 2), 0⟩] 1) 10) (fD 11)) (fD 12)) (fD 13))) (fD 15))))) (.node .dead (fD 18) (.node .dead (.node .dead (.node .dead (.node .dead (fD 14) (.node .dead (.node .dead (fD 12)
  (.node .dead (fD 11) (lD (.cells 46 1 1 (lA (nU 1088) 23) false false) 10))) (fD 13))) (.node .dead (fD 14) (.node .dead (.node .dead (.node .dead (lD (.cells 198 4 4 (.node (.ptr
  9015 0) (.node (.sl 9016 0 0 1 (.k 1)) (lA (nI 16) 21) (fA 22)) (lA (.sl 14960 0 0 1 (.u 14960 0)) 22)) true false) 10) (fD 11)) (fD 12)) (fD 13)))) (fD 16)) (fD 17))))) (.node
  .dead (.node .dead (.node .dead (.node .dead (fD 17) (.node .dead (fD 16) (.node .dead (fD 15) (.node o15 (fD 14) (.node .dead (.node .dead (fD 12) (.node .dead (fD 11) (lD (.cells
  3 1 1 (lA (nI 0) 23) false false) 10))) (fD 13)))))) (fD 18)) (.node .dead (lD (.cells 31 10 10 (.node (.ptr 61 0) (.node (nI 1) (.node (nI 0) (lA .nil 20) (fA 21)) (.node (.bool
  false) (lA .nilfn 20) (fA 21))) (.node (nI 1) (.node .nilsl (lA .nil 20) (fA 21)) (lA .nilsl 21))) true false) 17) (.node .dead (.node .dead (.node .dead (fD 15) (.node .dead (fD
  14) (.node .dead (.node .dead (.node .dead (lD (.map [] 0) 10) (fD 11)) (fD 12)) (fD 13)))) (fD 16)) (fD 17)))) (.node .dead (.node .dead (.node .dead (fD 17) (.node .dead (.node
  .dead (.node .dead (fD 14) (.node .dead (.node .dead (.node .dead (fD 11) (lD o15 10)) (fD 12)) (.node .dead (.node .dead (lD o47 10) (fD 11)) (fD 12)))) (fD 15)) (fD 16))) (.node
  .dead (fD 17) (.node .dead (fD 16) (.node .dead (.node .dead (fD 14) (.node .dead (.node .dead (.node .dead (lD (.cells 348 1 1 (lA .nilsl 23) true false) 10) (fD 11)) (fD 12)) (fD
  13))) (fD 15))))) (.node (.cells 114 7 7 (.node (.sl 84 0 0 8 (.u 84 0)) (.node (.sl 82 0 0 8 (.u 82 0)) (lA (nU 0) 21) (lA (nU 0) 21)) (.node (.map 60) (lA (nU 0) 21) (lA (nU 0)
  21))) true false) (.node o1 (.node .dead (.node .dead (fD 15) (.node .dead (fD 14) (.node .dead (.node .dead (.node .dead (lD (.cells 46 1 5 (.node (nU 1280) (.node (nU 1664) (lA
  (nU 1856) 21) (fA 22)) (.node (nU 1472) (lA (nU 1088) 21) (fA 22))) false false) 10) (fD 11)) (fD 12)) (fD 13)))) (fD 16)) (fD 17)) (.node .dead (.node .dead (.node .dead (fD 15)
  (.node .dead (fD 14) (.node .dead (.node .dead (.node .dead (lD (.cells 49 10 10 (.node (nI 6) (.node (nI 0) (.node (nU 0) (lA (nU 0) 20) (fA 21)) (.node (nI 0) (lA .nilsl 20) (fA
  21))) (.node (nI 0) (.node (nU 0) (lA (nI 0) 20) (fA 21)) (lA (.str (bs [])) 21))) true false) 10) (fD 11)) (fD 12)) (fD 13)))) (fD 16)) (fD 17))))))) (.node .dead (.node .dead
  (.node .dead (.node .dead (.node .dead (.node .dead (fD 17) (lD (.cells 114 7 7 (.node (.sl 967 0 0 384 (.u 967 0)) (.node (.sl 965 0 0 384 (.u 965 0)) (lA (nU 783) 21) (lA (nU 0)
  21)) (.node (.map 191) (lA (nU 0) 21) (lA (nU 0) 21))) true false) 16)) (.node .dead (.node .dead (fD 16) (.node .dead (fD 15) (.node .dead (fD 14) (.node .dead (.node .dead (fD
  12) (.node .dead (fD 11) (lD (.cells 3 1 1 (lA (nI 0) 23) false false) 10))) (fD 13))))) (fD 17))) (.node .dead (fD 18) (.node .dead (fD 17) (.node .dead (.node .dead (.node .dead
  (fD 14) (.node .dead (.node .dead (fD 12) (.node .dead (fD 11) (lD (.cells 103 11 11 (.node (nI 0) (.node (nI 2) (.node (nU 0) (lA (.int .i64 (.negSucc 0)) 20) (fA 21)) (.node
  (.str (bs [])) (lA (.str (bs [])) 20) (fA 21))) (.node (nU 5) (.node (nI 0) (lA (nI 0) 20) (fA 21)) (.node (nI 0) (lA .nilsl 20) (fA 21)))) false false) 10))) (fD 13))) (fD 15))
  (fD 16))))) (.node .dead (.node .dead (.node .dead (fD 17) (.node .dead (fD 16) (.node .dead (fD 15) (lD (.cells 31 10 10 (.node (.ptr 192 0) (.node (nI 1) (.node (nI 786) (lA
  (.ptr 9015 0) 20) (fA 21)) (.node (.bool true) (lA (.fn (.func 77) [] [(.ptr 9804 0), (.ptr 9026 0)]) 20) (fA 21))) (.node (nI 5) (.node .nilsl (lA (.ptr 9017 0) 20) (fA 21)) (lA
  .nilsl 21))) true false) 14)))) (.node .dead (fD 17) (.node .dead (fD 16) (.node .dead (.node .dead (fD 14) (.node .dead (.node .dead (.node .dead (lD (.cells 298 2 6 (.node (nI 0)
  (.node (nU 0) (lA (nU 1) 21) (lA (nU 0) 21)) (.node (nI 3) (lA (nI 0) 21) (fA 22))) true false) 10) (fD 11)) (fD 12)) (fD 13))) (fD 15))))) (.node .dead (fD 18) (.node .dead (.node
  .dead (.node .dead (fD 15) (.node .dead (fD 14) (.node .dead (.node .dead (.node .dead (lD (.cells 204 2 2 (.node (.ifc 277 (.ptr 14955 0)) (lA (nI 0) 22) (fA 23)) true false) 10)
  (fD 11)) (fD 12)) (fD 13)))) (fD 16)) (fD 17))))) (.node .dead (.node .dead (.node .dead (fD 18) (lD o7 17)) (.node .dead (lD (.cells 43 1 8 (.node (nU 0) (.node (nU 0) (.node (nU
  0) (lA (nU 0) 20) (fA 21)) (lA (nU 0) 21)) (.node (nU 0) (lA (nU 0) 21) (lA (nU 0) 21))) false false) 17) (fD 18))) (.node .dead (.node .dead (.node .dead (fD 17) (.node .dead
  (.node .dead (.node .dead (fD 14) (.node .dead (fD 13) (.node .dead (.node .dead (lD (.cells 174 1 1 (lA (.ptr 9803 0) 23) true false) 10) (fD 11)) (fD 12)))) (fD 15)) (fD 16)))
  (.node .dead (fD 17) (.node .dead (fD 16) (.node .dead (.node .dead (fD 14) (.node .dead (.node .dead (.node .dead (lD (.cells 348 1 1 (lA .nilsl 23) true false) 10) (fD 11)) (fD
  12)) (fD 13))) (fD 15))))) (.node (.map [] 0) (.node .dead (fD 17) (.node .dead (.node .dead (.node .dead (fD 14) (.node .dead (.node .dead (fD 12) (.node .dead (fD 11) (lD (.cells
  106 12 12 (.node (nI 0) (.node (nI 1) (.node (nI 2) (lA (.str (bs [])) 20) (lA (nI 0) 20)) (.node (nU 0) (lA (nI 0) 20) (fA 21))) (.node (nI 0) (.node (nU 5) (lA (nU 0) 20) (fA
  21)) (.node (nI 0) (lA .nilsl 20) (fA 21)))) true false) 10))) (fD 13))) (fD 15)) (fD 16))) (.node .dead (.node .dead (.node .dead (fD 15) (.node .dead (fD 14) (.node .dead (.node
  .dead (.node .dead (lD (.cells 106 12 12 (.node (nI 2) (.node (nI 0) (.node (nI 0) (lA (.str (bs [])) 20) (lA (nI 0) 20)) (.node (nU 0) (lA (nI 0) 20) (fA 21))) (.node (nI 0)
  (.node (nU 0) (lA (nU 0) 20) (fA 21)) (.node (nI 0) (lA .nilsl 20) (fA 21)))) true false) 10) (fD 11)) (fD 12)) (fD 13)))) (fD 16)) (fD 17)))))) (.node o1 (.node .dead (.node .dead
  (.node .dead (.node .dead (fD 17) (.node .dead (.node .dead (fD 15) (.node .dead (fD 14) (.node .dead (.node .dead (.node .dead (lD (.cells 22 1 1 (lA (.ptr 968 0) 23) true false)
  10) (fD 11)) (fD 12)) (fD 13)))) (fD 16))) (fD 18)) (.node .dead (lD (.cells 43 1 8 (.node (nU 0) (.node (nU 0) (.node (nU 0) (lA (nU 0) 20) (fA 21)) (lA (nU 0) 21)) (.node (nU 0)
  (lA (nU 0) 21) (lA (nU 0) 21))) false false) 17) (fD 18))) (.node .dead (.node .dead (.node .dead (fD 17) (.node .dead (.node .dead (.node .dead (fD 14) (.node .dead (fD 13) (.node
  .dead (.node .dead (lD o19 10) (fD 11)) (fD 12)))) (fD 15)) (fD 16))) (.node .dead (fD 17) (.node .dead (fD 16) (.node .dead (.node .dead (fD 14) (.node .dead (.node .dead (.node
  .dead (lD (.cells 294 7 7 (.node (nI 3072) (.node (.sl 8936 0 0 3 (.k 3)) (lA (.ptr 8941 0) 21) (lA (.ptr 8943 0) 21)) (.node (.ptr 8940 0) (lA (.ptr 8942 0) 21) (lA (.map 8937)
  21))) true false) 10) (fD 11)) (fD 12)) (fD 13))) (fD 15))))) (.node .dead (fD 18) (.node .dead (.node .dead (fD 16) (.node .dead (fD 15) (.node .dead (fD 14) (.node .dead (.node
  .dead (fD 12) (.node .dead (fD 11) (lD (.cells 277 1 1 (lA (.ptr 14955 0) 23) true false) 10))) (fD 13))))) (fD 17))))) (.node .dead (.node .dead (.node .dead (.node .dead (fD 17)
  (.node .dead (.node .dead (fD 15) (.node .dead (fD 14) (.node .dead (.node .dead (.node .dead (lD (.cells 235 12 12 (.node (.ptr 192 0) (.node (.sl 9802 383 1 0 (.u 9802 384))
  (.node (.fn (.func 118) [(.ptr 9030 0)] []) (lA (.sl 14905 0 0 1 (.u 14905 0)) 20) (lA (nI 1) 20)) (.node (nI 0) (lA .nilsl 20) (fA 21))) (.node (.sl 12877 0 0 384 (.u 12877 0))
  (.node (.bool true) (lA .nilsl 20) (fA 21)) (.node .nilsl (lA (nI 0) 20) (fA 21)))) true false) 10) (fD 11)) (fD 12)) (fD 13)))) (fD 16))) (fD 18)) (.node .dead (fD 18) (.node
  .dead (.node .dead (.node .dead (fD 15) (.node .dead (fD 14) (.node .dead (.node .dead (.node .dead (lD o45 10) (fD 11)) (fD 12)) (fD 13)))) (fD 16)) (fD 17)))) (.node .dead (.node
  .dead (fD 18) (.node .dead (fD 17) (.node .dead (fD 16) (.node .dead (.node .dead (fD 14) (.node .dead (.node .dead (.node .dead (lD (.cells 348 1 1 (lA .nilsl 23) true false) 10)
  (fD 11)) (fD 12)) (fD 13))) (fD 15))))) (.node .dead (fD 18) (.node .dead (.node .dead (fD 16) (.node .dead (fD 15) (.node .dead (fD 14) (.node .dead (.node .dead (fD 12) (.node
  .dead (fD 11) (lD (.cells 46 1 3 (.node (nU 1088) (lA (nU 1152) 22) (lA (nU 1216) 22)) false false) 10))) (fD 13))))) (fD 17)))))))), 15302⟩,
  [.reg (opsAt Tryz.f60 [1, 0, 0])
  ((opsAt Tryz.f60 [1, 0, 0]).toList.drop 2), .code (codeAt Tryz.f60 [1, 0, 1]), .code (codeAt Tryz.f60 [1, 1])]⟩
end Go.Proofs.YtakcddbpblookaaGreat.engineNil
