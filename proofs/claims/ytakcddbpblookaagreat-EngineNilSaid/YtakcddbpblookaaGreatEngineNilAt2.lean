/-
  MADE HERE: the states between the parts of the run (printed by a program).
  Conditions: none.
-/
import Derived.Test.YtakcddbpblookaaGreatEngineNilAt1
namespace Go.Proofs.YtakcddbpblookaaGreat.engineNil
open Go.Lev
/-- where the run stands at the end of part 15 -/
noncomputable def s15 : St :=
  ⟨⟨170, 20, [], .normal, none,
  [o24,
    o29,
    o26,
    o23,
    o27,
    o30,
    o28,
    o18,
    o16,
    o6]⟩,
  .run,
  (.node (.sl 5728 0 0 384 (.u 5728 0)) (.node
  undefV (.node (.sl 6784 0 0 2816 (.u 6784 0)) (.node (.sl 5728 0 0 384 (.u 5728 0)) (lU (.sl 6781 0 0 2808 (.u 6781 0)) 19) (fU 20)) (lU (.ptr 5728 351) 20)) (.node (nU 0) (.node
  (nI 352) (lU (.sl 6784 0 0 2816 (.u 6784 0)) 19) (fU 20)) (lU (nU 0) 20))) (.node .nilsl (.node undefV (.node (nI 384) (lU (.sl 6783 0 0 8 (.k 8)) 19) (fU 20)) (lU (nU 0) 20))
  (.node (.ptr 6783 0) (.node (.bool true) (lU (nI 352) 19) (fU 20)) (lU (.agg [(nB 0), (nB 0), (nB 0), (nB 0), (nB 0), (nB 0), (nB 0), (nB 0)]) 20)))),
  ⟨(.node (.cells 31 10 10
  (.node .nil (.node (nI 0) (.node (nI 0) (lA .nil 20) (fA 21)) (.node (.bool false) (lA .nilfn 20) (fA 21))) (.node (nI 0) (.node .nilsl (lA .nil 20) (fA 21)) (lA .nilsl 21))) true
  false) (.node .dead (.node o1 (.node (.cells 5 1 64 (fB 24) true false) (.node .dead (.node .dead (.node .dead (.node .dead (fD 16) (.node .dead (.node .dead (fD 14) (.node .dead
  (.node .dead (fD 12) (lD (.cells 147 8 8 (.node (nB 0) (.node (nB 0) (.node (nB 0) (lA (nB 0) 20) (fA 21)) (lA (nB 0) 21)) (.node (nB 0) (lA (nB 0) 21) (lA (nB 0) 21))) true false)
  11)) (fD 13))) (fD 15))) (lD (.map [] 0) 16)) (.node .dead (fD 17) (.node .dead (.node .dead (.node .dead (fD 14) (.node .dead (lD (.cells 167 1 1 (lA (.ptr 1882 0) 23) true false)
  12) (.node .dead (lD (.cells 43 1 1 (lA (nU 0) 23) true false) 11) (fD 12)))) (fD 15)) (fD 16)))) (fD 19)) (.node .dead (.node .dead (.node .dead (fD 17) (.node .dead (fD 16)
  (.node .dead (fD 15) (lD o15 14)))) (fD 18)) (fD 19))) (.node .dead (.node .dead (.node .dead (fD 18) (lD (.cells 99 3 3 (.node .nilsl (lA .nilsl 22) (lA (.bool false) 22)) false
  false) 17)) (.node .dead (.node .dead (fD 17) (.node .dead (.node .dead (fD 15) (.node .dead (fD 14) (lD (.cells 49 10 10 (.node (nI 5) (.node (nI 0) (.node (nU 0) (lA (nU 0) 20)
  (fA 21)) (.node (nI 0) (lA .nilsl 20) (fA 21))) (.node (nI 0) (.node (nU 0) (lA (nI 0) 20) (fA 21)) (lA (.str (bs [])) 21))) true false) 13))) (fD 16))) (fD 18))) (.node .dead (fD
  19) (.node (.cells 5 1 64 (fB 24) true false) (.node .dead (fD 17) (.node .dead (.node .dead (.node .dead (fD 14) (.node .dead (fD 13) (.node .dead (lD o1 11) (fD 12)))) (fD 15))
  (fD 16))) (fD 18))))) (.node .dead (.node .dead (.node .dead (.node (.cells 5 1 64 (fB 24) true false) (fD 18) (.node .dead (fD 17) (.node .dead (.node .dead (.node .dead (fD 14)
  (.node .dead (lD o1 12) (fD 13))) (fD 15)) (fD 16)))) (.node .dead (.node .dead (fD 17) (.node .dead (.node .dead (fD 15) (.node .dead (fD 14) (lD (.cells 106 12 12 (.node (nI 1)
  (.node (nI 0) (.node (nI 0) (lA (.str (bs [])) 20) (lA (nI 0) 20)) (.node (nU 0) (lA (nI 0) 20) (fA 21))) (.node (nI 0) (.node (nU 0) (lA (nU 0) 20) (fA 21)) (.node (nI 0) (lA
  .nilsl 20) (fA 21)))) true false) 13))) (fD 16))) (fD 18))) (.node .dead (fD 19) (.node .dead (.node .dead (fD 17) (.node .dead (.node .dead (.node .dead (fD 14) (.node .dead (fD
  13) (.node .dead (lD o21 11) (fD 12)))) (fD 15)) (fD 16))) (fD 18)))) (.node .dead (.node .dead (.node .dead (.node .dead (fD 17) (.node .dead (fD 16) (.node .dead (fD 15) (lD o15
  14)))) (fD 18)) (.node .dead (lD (.cells 31 10 10 (.node (.ptr 61 0) (.node (nI 1) (.node (nI 0) (lA .nil 20) (fA 21)) (.node (.bool false) (lA .nilfn 20) (fA 21))) (.node (nI 1)
  (.node .nilsl (lA .nil 20) (fA 21)) (lA .nilsl 21))) true false) 17) (fD 18))) (.node .dead (fD 19) (.node (.cells 114 7 7 (.node (.sl 84 0 0 8 (.u 84 0)) (.node (.sl 82 0 0 8 (.u
  82 0)) (lA (nU 0) 21) (lA (nU 0) 21)) (.node (.map 60) (lA (nU 0) 21) (lA (nU 0) 21))) true false) (.node o1 (fD 17) (.node .dead (.node .dead (.node .dead (fD 14) (.node .dead (fD
  13) (.node .dead (lD o22 11) (fD 12)))) (fD 15)) (fD 16))) (fD 18)))))) (.node .dead (.node .dead (.node .dead (.node .dead (.node .dead (.node .dead (.node .dead (fD 16) (.node
  .dead (.node .dead (fD 14) (.node .dead (.node .dead (fD 12) (lD (.cells 5 1 2816 (.node (nB 70) (.node (nB 65) (.node (nB 84) (.node (nB 82) (.node (nB 0) (.node (nB 255) (.node
  (nB 0) (.node (nB 0) (.node (nB 0) (.node (nB 0) (.node (nB 0) (lA (nB 0) 12) (fA 13)) (.node (nB 0) (lA (nB 0) 12) (fA 13))) (.node (nB 0) (.node (nB 0) (lA (nB 0) 12) (fA 13))
  (.node (nB 0) (lA (nB 0) 12) (fA 13)))) (.node (nB 0) (.node (nB 0) (.node (nB 0) (lA (nB 0) 12) (fA 13)) (.node (nB 0) (lA (nB 0) 12) (fA 13))) (.node (nB 0) (.node (nB 0) (lA (nB
  0) 12) (fA 13)) (lA (nB 0) 13)))) (.node (nB 0) (.node (nB 0) (.node (nB 0) (.node (nB 0) (lA (nB 0) 12) (fA 13)) (.node (nB 0) (lA (nB 0) 12) (fA 13))) (.node (nB 0) (.node (nB 0)
  (lA (nB 0) 12) (fA 13)) (lA (nB 0) 13))) (.node (nB 0) (.node (nB 0) (.node (nB 0) (lA (nB 0) 12) (fA 13)) (.node (nB 0) (lA (nB 0) 12) (fA 13))) (.node (nB 0) (.node (nB 0) (lA
  (nB 0) 12) (fA 13)) (lA (nB 0) 13))))) (.node (nB 0) (.node (nB 0) (.node (nB 0) (.node (nB 0) (.node (nB 0) (lA (nB 0) 12) (fA 13)) (.node (nB 0) (lA (nB 0) 12) (fA 13))) (.node
  (nB 0) (.node (nB 0) (lA (nB 0) 12) (fA 13)) (lA (nB 0) 13))) (.node (nB 0) (.node (nB 0) (.node (nB 0) (lA (nB 0) 12) (fA 13)) (.node (nB 0) (lA (nB 0) 12) (fA 13))) (.node (nB 0)
  (.node (nB 0) (lA (nB 0) 12) (fA 13)) (lA (nB 0) 13)))) (.node (nB 0) (.node (nB 0) (.node (nB 0) (.node (nB 0) (lA (nB 0) 12) (fA 13)) (.node (nB 0) (lA (nB 0) 12) (fA 13)))
  (.node (nB 0) (.node (nB 0) (lA (nB 0) 12) (fA 13)) (lA (nB 0) 13))) (.node (nB 0) (.node (nB 0) (.node (nB 0) (lA (nB 0) 12) (fA 13)) (.node (nB 0) (lA (nB 0) 12) (fA 13))) (.node
  (nB 0) (.node (nB 0) (lA (nB 0) 12) (fA 13)) (lA (nB 0) 13)))))) (.node (nB 0) (.node (nB 0) (.node (nB 0) (.node (nB 0) (.node (nB 0) (.node (nB 0) (lA (nB 0) 12) (fA 13)) (.node
  (nB 0) (lA (nB 0) 12) (fA 13))) (.node (nB 0) (.node (nB 0) (lA (nB 0) 12) (fA 13)) (lA (nB 0) 13))) (.node (nB 0) (.node (nB 0) (.node (nB 0) (lA (nB 0) 12) (fA 13)) (.node (nB 0)
  (lA (nB 0) 12) (fA 13))) (.node (nB 0) (.node (nB 0) (lA (nB 0) 12) (fA 13)) (lA (nB 0) 13)))) (.node (nB 0) (.node (nB 0) (.node (nB 0) (.node (nB 0) (lA (nB 0) 12) (fA 13))
  (.node (nB 0) (lA (nB 0) 12) (fA 13))) (.node (nB 0) (.node (nB 0) (lA (nB 0) 12) (fA 13)) (lA (nB 0) 13))) (.node (nB 0) (.node (nB 0) (.node (nB 0) (lA (nB 0) 12) (fA 13)) (.node
  (nB 0) (lA (nB 0) 12) (fA 13))) (.node (nB 0) (.node (nB 0) (lA (nB 0) 12) (fA 13)) (lA (nB 0) 13))))) (.node (nB 0) (.node (nB 0) (.node (nB 0) (.node (nB 0) (.node (nB 0) (lA (nB
  0) 12) (fA 13)) (.node (nB 0) (lA (nB 0) 12) (fA 13))) (.node (nB 0) (.node (nB 0) (lA (nB 0) 12) (fA 13)) (lA (nB 0) 13))) (.node (nB 0) (.node (nB 0) (.node (nB 0) (lA (nB 0) 12)
  (fA 13)) (.node (nB 0) (lA (nB 0) 12) (fA 13))) (.node (nB 0) (.node (nB 0) (lA (nB 0) 12) (fA 13)) (lA (nB 0) 13)))) (.node (nB 0) (.node (nB 0) (.node (nB 0) (.node (nB 0) (lA
  (nB 0) 12) (fA 13)) (.node (nB 0) (lA (nB 0) 12) (fA 13))) (.node (nB 0) (.node (nB 0) (lA (nB 0) 12) (fA 13)) (lA (nB 0) 13))) (.node (nB 0) (.node (nB 0) (.node (nB 0) (lA (nB 0)
  12) (fA 13)) (.node (nB 0) (lA (nB 0) 12) (fA 13))) (.node (nB 0) (.node (nB 0) (lA (nB 0) 12) (fA 13)) (lA (nB 0) 13))))))) (.node (nB 0) (.node (nB 0) (.node (nB 0) (.node (nB 0)
  (.node (nB 0) (.node (nB 0) (.node (nB 0) (lA (nB 0) 12) (fA 13)) (.node (nB 0) (lA (nB 0) 12) (fA 13))) (.node (nB 0) (.node (nB 0) (lA (nB 0) 12) (fA 13)) (lA (nB 0) 13))) (.node
  (nB 0) (.node (nB 0) (.node (nB 0) (lA (nB 0) 12) (fA 13)) (.node (nB 0) (lA (nB 0) 12) (fA 13))) (.node (nB 0) (.node (nB 0) (lA (nB 0) 12) (fA 13)) (lA (nB 0) 13)))) (.node (nB
  0) (.node (nB 0) (.node (nB 0) (.node (nB 76) (lA (nB 0) 12) (fA 13)) (.node (nB 0) (lA (nB 0) 12) (fA 13))) (.node (nB 0) (.node (nB 0) (lA (nB 0) 12) (fA 13)) (lA (nB 0) 13)))
  (.node (nB 0) (.node (nB 0) (.node (nB 0) (lA (nB 0) 12) (fA 13)) (.node (nB 0) (lA (nB 0) 12) (fA 13))) (.node (nB 0) (.node (nB 0) (lA (nB 0) 12) (fA 13)) (lA (nB 0) 13)))))
  (.node (nB 0) (.node (nB 0) (.node (nB 0) (.node (nB 0) (.node (nB 0) (lA (nB 0) 12) (fA 13)) (.node (nB 0) (lA (nB 0) 12) (fA 13))) (.node (nB 0) (.node (nB 0) (lA (nB 0) 12) (fA
  13)) (lA (nB 0) 13))) (.node (nB 0) (.node (nB 0) (.node (nB 0) (lA (nB 0) 12) (fA 13)) (.node (nB 0) (lA (nB 0) 12) (fA 13))) (.node (nB 0) (.node (nB 0) (lA (nB 0) 12) (fA 13))
  (lA (nB 0) 13)))) (.node (nB 0) (.node (nB 0) (.node (nB 0) (.node (nB 0) (lA (nB 0) 12) (fA 13)) (.node (nB 0) (lA (nB 0) 12) (fA 13))) (.node (nB 0) (.node (nB 0) (lA (nB 0) 12)
  (fA 13)) (lA (nB 0) 13))) (.node (nB 0) (.node (nB 0) (.node (nB 0) (lA (nB 0) 12) (fA 13)) (.node (nB 0) (lA (nB 0) 12) (fA 13))) (.node (nB 0) (.node (nB 0) (lA (nB 0) 12) (fA
  13)) (lA (nB 0) 13)))))) (.node (nB 0) (.node (nB 0) (.node (nB 0) (.node (nB 0) (.node (nB 0) (.node (nB 0) (lA (nB 0) 12) (fA 13)) (.node (nB 0) (lA (nB 0) 12) (fA 13))) (.node
  (nB 0) (.node (nB 0) (lA (nB 0) 12) (fA 13)) (lA (nB 0) 13))) (.node (nB 0) (.node (nB 0) (.node (nB 0) (lA (nB 0) 12) (fA 13)) (.node (nB 0) (lA (nB 0) 12) (fA 13))) (.node (nB 0)
  (.node (nB 0) (lA (nB 0) 12) (fA 13)) (lA (nB 0) 13)))) (.node (nB 0) (.node (nB 0) (.node (nB 0) (.node (nB 0) (lA (nB 0) 12) (fA 13)) (.node (nB 0) (lA (nB 0) 12) (fA 13)))
  (.node (nB 0) (.node (nB 0) (lA (nB 0) 12) (fA 13)) (lA (nB 0) 13))) (.node (nB 0) (.node (nB 0) (.node (nB 0) (lA (nB 0) 12) (fA 13)) (.node (nB 0) (lA (nB 0) 12) (fA 13))) (.node
  (nB 0) (.node (nB 0) (lA (nB 0) 12) (fA 13)) (lA (nB 0) 13))))) (.node (nB 0) (.node (nB 0) (.node (nB 0) (.node (nB 0) (.node (nB 0) (lA (nB 0) 12) (fA 13)) (.node (nB 0) (lA (nB
  0) 12) (fA 13))) (.node (nB 0) (.node (nB 0) (lA (nB 0) 12) (fA 13)) (lA (nB 0) 13))) (.node (nB 0) (.node (nB 0) (.node (nB 0) (lA (nB 0) 12) (fA 13)) (.node (nB 0) (lA (nB 0) 12)
  (fA 13))) (.node (nB 0) (.node (nB 0) (lA (nB 0) 12) (fA 13)) (lA (nB 0) 13)))) (.node (nB 0) (.node (nB 0) (.node (nB 0) (.node (nB 0) (lA (nB 0) 12) (fA 13)) (.node (nB 0) (lA
  (nB 0) 12) (fA 13))) (.node (nB 0) (.node (nB 0) (lA (nB 0) 12) (fA 13)) (lA (nB 0) 13))) (.node (nB 0) (.node (nB 0) (.node (nB 0) (lA (nB 0) 12) (fA 13)) (.node (nB 0) (lA (nB 0)
  12) (fA 13))) (.node (nB 0) (.node (nB 0) (lA (nB 0) 12) (fA 13)) (lA (nB 0) 13)))))))) (.node (nB 0) (.node (nB 0) (.node (nB 0) (.node (nB 0) (.node (nB 0) (.node (nB 0) (.node
  (nB 0) (.node (nB 0) (lA (nB 0) 12) (fA 13)) (.node (nB 0) (lA (nB 0) 12) (fA 13))) (.node (nB 0) (.node (nB 0) (lA (nB 0) 12) (fA 13)) (lA (nB 0) 13))) (.node (nB 0) (.node (nB 0)
  (.node (nB 0) (lA (nB 0) 12) (fA 13)) (.node (nB 0) (lA (nB 0) 12) (fA 13))) (.node (nB 0) (.node (nB 0) (lA (nB 0) 12) (fA 13)) (lA (nB 0) 13)))) (.node (nB 0) (.node (nB 0)
  (.node (nB 0) (.node (nB 69) (lA (nB 0) 12) (fA 13)) (.node (nB 0) (lA (nB 0) 12) (fA 13))) (.node (nB 0) (.node (nB 0) (lA (nB 0) 12) (fA 13)) (lA (nB 0) 13))) (.node (nB 0)
  (.node (nB 0) (.node (nB 0) (lA (nB 0) 12) (fA 13)) (.node (nB 0) (lA (nB 0) 12) (fA 13))) (.node (nB 0) (.node (nB 0) (lA (nB 0) 12) (fA 13)) (lA (nB 0) 13))))) (.node (nB 0)
  (.node (nB 0) (.node (nB 0) (.node (nB 0) (.node (nB 0) (lA (nB 0) 12) (fA 13)) (.node (nB 0) (lA (nB 0) 12) (fA 13))) (.node (nB 0) (.node (nB 0) (lA (nB 0) 12) (fA 13)) (lA (nB
  0) 13))) (.node (nB 0) (.node (nB 0) (.node (nB 0) (lA (nB 0) 12) (fA 13)) (.node (nB 0) (lA (nB 0) 12) (fA 13))) (.node (nB 0) (.node (nB 0) (lA (nB 0) 12) (fA 13)) (lA (nB 0)
  13)))) (.node (nB 0) (.node (nB 0) (.node (nB 0) (.node (nB 0) (lA (nB 0) 12) (fA 13)) (.node (nB 0) (lA (nB 0) 12) (fA 13))) (.node (nB 0) (.node (nB 0) (lA (nB 0) 12) (fA 13))
  (lA (nB 0) 13))) (.node (nB 0) (.node (nB 0) (.node (nB 0) (lA (nB 0) 12) (fA 13)) (.node (nB 0) (lA (nB 0) 12) (fA 13))) (.node (nB 0) (.node (nB 0) (lA (nB 0) 12) (fA 13)) (lA
  (nB 0) 13)))))) (.node (nB 0) (.node (nB 0) (.node (nB 0) (.node (nB 0) (.node (nB 0) (.node (nB 0) (lA (nB 0) 12) (fA 13)) (.node (nB 0) (lA (nB 0) 12) (fA 13))) (.node (nB 0)
  (.node (nB 0) (lA (nB 0) 12) (fA 13)) (lA (nB 0) 13))) (.node (nB 0) (.node (nB 0) (.node (nB 0) (lA (nB 0) 12) (fA 13)) (.node (nB 0) (lA (nB 0) 12) (fA 13))) (.node (nB 0) (.node
  (nB 0) (lA (nB 0) 12) (fA 13)) (lA (nB 0) 13)))) (.node (nB 0) (.node (nB 0) (.node (nB 0) (.node (nB 0) (lA (nB 0) 12) (fA 13)) (.node (nB 0) (lA (nB 0) 12) (fA 13))) (.node (nB
  0) (.node (nB 0) (lA (nB 0) 12) (fA 13)) (lA (nB 0) 13))) (.node (nB 0) (.node (nB 0) (.node (nB 0) (lA (nB 0) 12) (fA 13)) (.node (nB 0) (lA (nB 0) 12) (fA 13))) (.node (nB 0)
  (.node (nB 0) (lA (nB 0) 12) (fA 13)) (lA (nB 0) 13))))) (.node (nB 0) (.node (nB 0) (.node (nB 0) (.node (nB 0) (.node (nB 0) (lA (nB 0) 12) (fA 13)) (.node (nB 0) (lA (nB 0) 12)
  (fA 13))) (.node (nB 0) (.node (nB 0) (lA (nB 0) 12) (fA 13)) (lA (nB 0) 13))) (.node (nB 0) (.node (nB 0) (.node (nB 0) (lA (nB 0) 12) (fA 13)) (.node (nB 0) (lA (nB 0) 12) (fA
  13))) (.node (nB 0) (.node (nB 0) (lA (nB 0) 12) (fA 13)) (lA (nB 0) 13)))) (.node (nB 0) (.node (nB 0) (.node (nB 0) (.node (nB 0) (lA (nB 0) 12) (fA 13)) (.node (nB 0) (lA (nB 0)
  12) (fA 13))) (.node (nB 0) (.node (nB 0) (lA (nB 0) 12) (fA 13)) (lA (nB 0) 13))) (.node (nB 0) (.node (nB 0) (.node (nB 0) (lA (nB 0) 12) (fA 13)) (.node (nB 0) (lA (nB 0) 12)
  (fA 13))) (.node (nB 0) (.node (nB 0) (lA (nB 0) 12) (fA 13)) (lA (nB 0) 13))))))) (.node (nB 255) (.node (nB 0) (.node (nB 0) (.node (nB 0) (.node (nB 0) (.node (nB 0) (.node (nB
  0) (lA (nB 0) 12) (fA 13)) (.node (nB 0) (lA (nB 0) 12) (fA 13))) (.node (nB 0) (.node (nB 0) (lA (nB 0) 12) (fA 13)) (lA (nB 0) 13))) (.node (nB 0) (.node (nB 0) (.node (nB 0) (lA
  (nB 0) 12) (fA 13)) (.node (nB 0) (lA (nB 0) 12) (fA 13))) (.node (nB 0) (.node (nB 0) (lA (nB 0) 12) (fA 13)) (lA (nB 0) 13)))) (.node (nB 0) (.node (nB 0) (.node (nB 0) (.node
  (nB 0) (lA (nB 0) 12) (fA 13)) (.node (nB 0) (lA (nB 0) 12) (fA 13))) (.node (nB 0) (.node (nB 0) (lA (nB 0) 12) (fA 13)) (lA (nB 0) 13))) (.node (nB 0) (.node (nB 0) (.node (nB 0)
  (lA (nB 0) 12) (fA 13)) (.node (nB 0) (lA (nB 0) 12) (fA 13))) (.node (nB 0) (.node (nB 0) (lA (nB 0) 12) (fA 13)) (lA (nB 0) 13))))) (.node (nB 0) (.node (nB 0) (.node (nB 0)
  (.node (nB 0) (.node (nB 0) (lA (nB 0) 12) (fA 13)) (.node (nB 0) (lA (nB 0) 12) (fA 13))) (.node (nB 0) (.node (nB 0) (lA (nB 0) 12) (fA 13)) (lA (nB 0) 13))) (.node (nB 0) (.node
  (nB 0) (.node (nB 0) (lA (nB 0) 12) (fA 13)) (.node (nB 0) (lA (nB 0) 12) (fA 13))) (.node (nB 0) (.node (nB 0) (lA (nB 0) 12) (fA 13)) (lA (nB 0) 13)))) (.node (nB 0) (.node (nB
  0) (.node (nB 0) (.node (nB 0) (lA (nB 0) 12) (fA 13)) (.node (nB 0) (lA (nB 0) 12) (fA 13))) (.node (nB 0) (.node (nB 0) (lA (nB 0) 12) (fA 13)) (lA (nB 0) 13))) (.node (nB 0)
  (.node (nB 0) (.node (nB 0) (lA (nB 0) 12) (fA 13)) (.node (nB 0) (lA (nB 0) 12) (fA 13))) (.node (nB 0) (.node (nB 0) (lA (nB 0) 12) (fA 13)) (lA (nB 0) 13)))))) (.node (nB 0)
  (.node (nB 0) (.node (nB 0) (.node (nB 0) (.node (nB 0) (.node (nB 0) (lA (nB 0) 12) (fA 13)) (.node (nB 0) (lA (nB 0) 12) (fA 13))) (.node (nB 0) (.node (nB 0) (lA (nB 0) 12) (fA
  13)) (lA (nB 0) 13))) (.node (nB 0) (.node (nB 0) (.node (nB 0) (lA (nB 0) 12) (fA 13)) (.node (nB 0) (lA (nB 0) 12) (fA 13))) (.node (nB 0) (.node (nB 0) (lA (nB 0) 12) (fA 13))
  (lA (nB 0) 13)))) (.node (nB 0) (.node (nB 0) (.node (nB 0) (.node (nB 0) (lA (nB 0) 12) (fA 13)) (.node (nB 0) (lA (nB 0) 12) (fA 13))) (.node (nB 0) (.node (nB 0) (lA (nB 0) 12)
  (fA 13)) (lA (nB 0) 13))) (.node (nB 0) (.node (nB 0) (.node (nB 0) (lA (nB 0) 12) (fA 13)) (.node (nB 0) (lA (nB 0) 12) (fA 13))) (.node (nB 0) (.node (nB 0) (lA (nB 0) 12) (fA
  13)) (lA (nB 0) 13))))) (.node (nB 0) (.node (nB 0) (.node (nB 0) (.node (nB 0) (.node (nB 0) (lA (nB 0) 12) (fA 13)) (.node (nB 0) (lA (nB 0) 12) (fA 13))) (.node (nB 0) (.node
  (nB 0) (lA (nB 0) 12) (fA 13)) (lA (nB 0) 13))) (.node (nB 0) (.node (nB 0) (.node (nB 0) (lA (nB 0) 12) (fA 13)) (.node (nB 0) (lA (nB 0) 12) (fA 13))) (.node (nB 0) (.node (nB 0)
  (lA (nB 0) 12) (fA 13)) (lA (nB 0) 13)))) (.node (nB 0) (.node (nB 0) (.node (nB 0) (.node (nB 0) (lA (nB 0) 12) (fA 13)) (.node (nB 0) (lA (nB 0) 12) (fA 13))) (.node (nB 0)
  (.node (nB 0) (lA (nB 0) 12) (fA 13)) (lA (nB 0) 13))) (.node (nB 0) (.node (nB 0) (.node (nB 0) (lA (nB 0) 12) (fA 13)) (.node (nB 0) (lA (nB 0) 12) (fA 13))) (.node (nB 0) (.node
  (nB 0) (lA (nB 0) 12) (fA 13)) (lA (nB 0) 13))))))))) (.node (nB 65) (.node (nB 12) (.node (nB 4) (.node (nB 0) (.node (nB 0) (.node (nB 0) (.node (nB 0) (.node (nB 0) (.node (nB
  0) (lA (nB 0) 12) (fA 13)) (.node (nB 0) (lA (nB 0) 12) (fA 13))) (.node (nB 0) (.node (nB 0) (lA (nB 0) 12) (fA 13)) (lA (nB 0) 13))) (.node (nB 0) (.node (nB 0) (.node (nB 0) (lA
  (nB 0) 12) (fA 13)) (.node (nB 0) (lA (nB 0) 12) (fA 13))) (.node (nB 0) (.node (nB 0) (lA (nB 0) 12) (fA 13)) (lA (nB 0) 13)))) (.node (nB 0) (.node (nB 0) (.node (nB 0) (.node
  (nB 0) (lA (nB 0) 12) (fA 13)) (.node (nB 0) (lA (nB 0) 12) (fA 13))) (.node (nB 0) (.node (nB 0) (lA (nB 0) 12) (fA 13)) (lA (nB 0) 13))) (.node (nB 0) (.node (nB 0) (.node (nB 0)
  (lA (nB 0) 12) (fA 13)) (.node (nB 0) (lA (nB 0) 12) (fA 13))) (.node (nB 0) (.node (nB 0) (lA (nB 0) 12) (fA 13)) (lA (nB 0) 13))))) (.node (nB 0) (.node (nB 0) (.node (nB 0)
  (.node (nB 0) (.node (nB 0) (lA (nB 0) 12) (fA 13)) (.node (nB 0) (lA (nB 0) 12) (fA 13))) (.node (nB 0) (.node (nB 0) (lA (nB 0) 12) (fA 13)) (lA (nB 0) 13))) (.node (nB 0) (.node
  (nB 0) (.node (nB 0) (lA (nB 0) 12) (fA 13)) (.node (nB 0) (lA (nB 0) 12) (fA 13))) (.node (nB 0) (.node (nB 0) (lA (nB 0) 12) (fA 13)) (lA (nB 0) 13)))) (.node (nB 0) (.node (nB
  0) (.node (nB 0) (.node (nB 4) (lA (nB 0) 12) (fA 13)) (.node (nB 0) (lA (nB 0) 12) (fA 13))) (.node (nB 0) (.node (nB 0) (lA (nB 0) 12) (fA 13)) (lA (nB 0) 13))) (.node (nB 0)
  (.node (nB 0) (.node (nB 0) (lA (nB 0) 12) (fA 13)) (.node (nB 0) (lA (nB 0) 12) (fA 13))) (.node (nB 0) (.node (nB 0) (lA (nB 0) 12) (fA 13)) (lA (nB 0) 13)))))) (.node (nB 0)
  (.node (nB 0) (.node (nB 0) (.node (nB 0) (.node (nB 0) (.node (nB 0) (lA (nB 0) 12) (fA 13)) (.node (nB 0) (lA (nB 0) 12) (fA 13))) (.node (nB 0) (.node (nB 0) (lA (nB 0) 12) (fA
  13)) (lA (nB 0) 13))) (.node (nB 0) (.node (nB 0) (.node (nB 0) (lA (nB 0) 12) (fA 13)) (.node (nB 0) (lA (nB 0) 12) (fA 13))) (.node (nB 0) (.node (nB 0) (lA (nB 0) 12) (fA 13))
  (lA (nB 0) 13)))) (.node (nB 0) (.node (nB 0) (.node (nB 0) (.node (nB 0) (lA (nB 0) 12) (fA 13)) (.node (nB 0) (lA (nB 0) 12) (fA 13))) (.node (nB 0) (.node (nB 0) (lA (nB 0) 12)
  (fA 13)) (lA (nB 0) 13))) (.node (nB 0) (.node (nB 0) (.node (nB 0) (lA (nB 0) 12) (fA 13)) (.node (nB 0) (lA (nB 0) 12) (fA 13))) (.node (nB 0) (.node (nB 0) (lA (nB 0) 12) (fA
  13)) (lA (nB 0) 13))))) (.node (nB 0) (.node (nB 0) (.node (nB 0) (.node (nB 0) (.node (nB 0) (lA (nB 0) 12) (fA 13)) (.node (nB 0) (lA (nB 0) 12) (fA 13))) (.node (nB 0) (.node
  (nB 0) (lA (nB 0) 12) (fA 13)) (lA (nB 0) 13))) (.node (nB 0) (.node (nB 0) (.node (nB 0) (lA (nB 0) 12) (fA 13)) (.node (nB 0) (lA (nB 0) 12) (fA 13))) (.node (nB 0) (.node (nB 0)
  (lA (nB 0) 12) (fA 13)) (lA (nB 0) 13)))) (.node (nB 0) (.node (nB 0) (.node (nB 0) (.node (nB 0) (lA (nB 0) 12) (fA 13)) (.node (nB 0) (lA (nB 0) 12) (fA 13))) (.node (nB 0)
  (.node (nB 0) (lA (nB 0) 12) (fA 13)) (lA (nB 0) 13))) (.node (nB 0) (.node (nB 0) (.node (nB 0) (lA (nB 0) 12) (fA 13)) (.node (nB 0) (lA (nB 0) 12) (fA 13))) (.node (nB 0) (.node
  (nB 0) (lA (nB 0) 12) (fA 13)) (lA (nB 0) 13))))))) (.node (nB 243) (.node (nB 0) (.node (nB 0) (.node (nB 0) (.node (nB 0) (.node (nB 0) (.node (nB 0) (lA (nB 0) 12) (fA 13))
  (.node (nB 0) (lA (nB 0) 12) (fA 13))) (.node (nB 0) (.node (nB 0) (lA (nB 0) 12) (fA 13)) (lA (nB 0) 13))) (.node (nB 0) (.node (nB 0) (.node (nB 0) (lA (nB 0) 12) (fA 13)) (.node
  (nB 0) (lA (nB 0) 12) (fA 13))) (.node (nB 0) (.node (nB 0) (lA (nB 0) 12) (fA 13)) (lA (nB 0) 13)))) (.node (nB 0) (.node (nB 0) (.node (nB 0) (.node (nB 0) (lA (nB 0) 12) (fA
  13)) (.node (nB 0) (lA (nB 0) 12) (fA 13))) (.node (nB 0) (.node (nB 0) (lA (nB 0) 12) (fA 13)) (lA (nB 0) 13))) (.node (nB 0) (.node (nB 0) (.node (nB 0) (lA (nB 0) 12) (fA 13))
  (.node (nB 0) (lA (nB 0) 12) (fA 13))) (.node (nB 0) (.node (nB 0) (lA (nB 0) 12) (fA 13)) (lA (nB 0) 13))))) (.node (nB 0) (.node (nB 0) (.node (nB 0) (.node (nB 0) (.node (nB 0)
  (lA (nB 0) 12) (fA 13)) (.node (nB 0) (lA (nB 0) 12) (fA 13))) (.node (nB 0) (.node (nB 0) (lA (nB 0) 12) (fA 13)) (lA (nB 0) 13))) (.node (nB 0) (.node (nB 0) (.node (nB 0) (lA
  (nB 0) 12) (fA 13)) (.node (nB 0) (lA (nB 0) 12) (fA 13))) (.node (nB 0) (.node (nB 0) (lA (nB 0) 12) (fA 13)) (lA (nB 0) 13)))) (.node (nB 0) (.node (nB 0) (.node (nB 0) (.node
  (nB 0) (lA (nB 0) 12) (fA 13)) (.node (nB 0) (lA (nB 0) 12) (fA 13))) (.node (nB 0) (.node (nB 0) (lA (nB 0) 12) (fA 13)) (lA (nB 0) 13))) (.node (nB 0) (.node (nB 0) (.node (nB 0)
  (lA (nB 0) 12) (fA 13)) (.node (nB 0) (lA (nB 0) 12) (fA 13))) (.node (nB 0) (.node (nB 0) (lA (nB 0) 12) (fA 13)) (lA (nB 0) 13)))))) (.node (nB 0) (.node (nB 0) (.node (nB 0)
  (.node (nB 0) (.node (nB 0) (.node (nB 0) (lA (nB 0) 12) (fA 13)) (.node (nB 0) (lA (nB 0) 12) (fA 13))) (.node (nB 0) (.node (nB 0) (lA (nB 0) 12) (fA 13)) (lA (nB 0) 13))) (.node
  (nB 0) (.node (nB 0) (.node (nB 0) (lA (nB 0) 12) (fA 13)) (.node (nB 0) (lA (nB 0) 12) (fA 13))) (.node (nB 0) (.node (nB 0) (lA (nB 0) 12) (fA 13)) (lA (nB 0) 13)))) (.node (nB
  0) (.node (nB 0) (.node (nB 0) (.node (nB 0) (lA (nB 0) 12) (fA 13)) (.node (nB 0) (lA (nB 0) 12) (fA 13))) (.node (nB 0) (.node (nB 0) (lA (nB 0) 12) (fA 13)) (lA (nB 0) 13)))
  (.node (nB 0) (.node (nB 0) (.node (nB 0) (lA (nB 0) 12) (fA 13)) (.node (nB 0) (lA (nB 0) 12) (fA 13))) (.node (nB 0) (.node (nB 0) (lA (nB 0) 12) (fA 13)) (lA (nB 0) 13)))))
  (.node (nB 0) (.node (nB 0) (.node (nB 0) (.node (nB 0) (.node (nB 0) (lA (nB 0) 12) (fA 13)) (.node (nB 0) (lA (nB 0) 12) (fA 13))) (.node (nB 0) (.node (nB 0) (lA (nB 0) 12) (fA
  13)) (lA (nB 0) 13))) (.node (nB 0) (.node (nB 0) (.node (nB 0) (lA (nB 0) 12) (fA 13)) (.node (nB 0) (lA (nB 0) 12) (fA 13))) (.node (nB 0) (.node (nB 0) (lA (nB 0) 12) (fA 13))
  (lA (nB 0) 13)))) (.node (nB 0) (.node (nB 0) (.node (nB 0) (.node (nB 0) (lA (nB 0) 12) (fA 13)) (.node (nB 0) (lA (nB 0) 12) (fA 13))) (.node (nB 0) (.node (nB 0) (lA (nB 0) 12)
  (fA 13)) (lA (nB 0) 13))) (.node (nB 0) (.node (nB 0) (.node (nB 0) (lA (nB 0) 12) (fA 13)) (.node (nB 0) (lA (nB 0) 12) (fA 13))) (.node (nB 0) (.node (nB 0) (lA (nB 0) 12) (fA
  13)) (lA (nB 0) 13)))))))) (.node (nB 0) (.node (nB 0) (.node (nB 0) (.node (nB 0) (.node (nB 0) (.node (nB 0) (.node (nB 0) (.node (nB 0) (lA (nB 0) 12) (fA 13)) (.node (nB 0) (lA
  (nB 0) 12) (fA 13))) (.node (nB 0) (.node (nB 0) (lA (nB 0) 12) (fA 13)) (lA (nB 0) 13))) (.node (nB 0) (.node (nB 0) (.node (nB 0) (lA (nB 0) 12) (fA 13)) (.node (nB 0) (lA (nB 0)
  12) (fA 13))) (.node (nB 0) (.node (nB 0) (lA (nB 0) 12) (fA 13)) (lA (nB 0) 13)))) (.node (nB 0) (.node (nB 0) (.node (nB 0) (.node (nB 86) (lA (nB 0) 12) (fA 13)) (.node (nB 0)
  (lA (nB 0) 12) (fA 13))) (.node (nB 0) (.node (nB 0) (lA (nB 0) 12) (fA 13)) (lA (nB 0) 13))) (.node (nB 0) (.node (nB 0) (.node (nB 0) (lA (nB 0) 12) (fA 13)) (.node (nB 0) (lA
  (nB 0) 12) (fA 13))) (.node (nB 0) (.node (nB 0) (lA (nB 0) 12) (fA 13)) (lA (nB 0) 13))))) (.node (nB 0) (.node (nB 0) (.node (nB 0) (.node (nB 0) (.node (nB 0) (lA (nB 0) 12) (fA
  13)) (.node (nB 0) (lA (nB 0) 12) (fA 13))) (.node (nB 0) (.node (nB 0) (lA (nB 0) 12) (fA 13)) (lA (nB 0) 13))) (.node (nB 0) (.node (nB 0) (.node (nB 0) (lA (nB 0) 12) (fA 13))
  (.node (nB 0) (lA (nB 0) 12) (fA 13))) (.node (nB 0) (.node (nB 0) (lA (nB 0) 12) (fA 13)) (lA (nB 0) 13)))) (.node (nB 0) (.node (nB 0) (.node (nB 0) (.node (nB 0) (lA (nB 0) 12)
  (fA 13)) (.node (nB 0) (lA (nB 0) 12) (fA 13))) (.node (nB 0) (.node (nB 0) (lA (nB 0) 12) (fA 13)) (lA (nB 0) 13))) (.node (nB 0) (.node (nB 0) (.node (nB 0) (lA (nB 0) 12) (fA
  13)) (.node (nB 0) (lA (nB 0) 12) (fA 13))) (.node (nB 0) (.node (nB 0) (lA (nB 0) 12) (fA 13)) (lA (nB 0) 13)))))) (.node (nB 0) (.node (nB 0) (.node (nB 0) (.node (nB 0) (.node
  (nB 0) (.node (nB 0) (lA (nB 0) 12) (fA 13)) (.node (nB 0) (lA (nB 0) 12) (fA 13))) (.node (nB 0) (.node (nB 0) (lA (nB 0) 12) (fA 13)) (lA (nB 0) 13))) (.node (nB 0) (.node (nB 0)
  (.node (nB 0) (lA (nB 0) 12) (fA 13)) (.node (nB 0) (lA (nB 0) 12) (fA 13))) (.node (nB 0) (.node (nB 0) (lA (nB 0) 12) (fA 13)) (lA (nB 0) 13)))) (.node (nB 0) (.node (nB 0)
  (.node (nB 0) (.node (nB 0) (lA (nB 0) 12) (fA 13)) (.node (nB 0) (lA (nB 0) 12) (fA 13))) (.node (nB 0) (.node (nB 0) (lA (nB 0) 12) (fA 13)) (lA (nB 0) 13))) (.node (nB 0) (.node
  (nB 0) (.node (nB 0) (lA (nB 0) 12) (fA 13)) (.node (nB 0) (lA (nB 0) 12) (fA 13))) (.node (nB 0) (.node (nB 0) (lA (nB 0) 12) (fA 13)) (lA (nB 0) 13))))) (.node (nB 0) (.node (nB
  0) (.node (nB 0) (.node (nB 0) (.node (nB 0) (lA (nB 0) 12) (fA 13)) (.node (nB 0) (lA (nB 0) 12) (fA 13))) (.node (nB 0) (.node (nB 0) (lA (nB 0) 12) (fA 13)) (lA (nB 0) 13)))
  (.node (nB 0) (.node (nB 0) (.node (nB 0) (lA (nB 0) 12) (fA 13)) (.node (nB 0) (lA (nB 0) 12) (fA 13))) (.node (nB 0) (.node (nB 0) (lA (nB 0) 12) (fA 13)) (lA (nB 0) 13))))
  (.node (nB 0) (.node (nB 0) (.node (nB 0) (.node (nB 0) (lA (nB 0) 12) (fA 13)) (.node (nB 0) (lA (nB 0) 12) (fA 13))) (.node (nB 0) (.node (nB 0) (lA (nB 0) 12) (fA 13)) (lA (nB
  0) 13))) (.node (nB 0) (.node (nB 0) (.node (nB 0) (lA (nB 0) 12) (fA 13)) (.node (nB 0) (lA (nB 0) 12) (fA 13))) (.node (nB 0) (.node (nB 0) (lA (nB 0) 12) (fA 13)) (lA (nB 0)
  13))))))) (.node (nB 255) (.node (nB 0) (.node (nB 0) (.node (nB 0) (.node (nB 0) (.node (nB 0) (.node (nB 0) (lA (nB 0) 12) (fA 13)) (.node (nB 0) (lA (nB 0) 12) (fA 13))) (.node
  (nB 0) (.node (nB 0) (lA (nB 0) 12) (fA 13)) (lA (nB 0) 13))) (.node (nB 0) (.node (nB 0) (.node (nB 0) (lA (nB 0) 12) (fA 13)) (.node (nB 0) (lA (nB 0) 12) (fA 13))) (.node (nB 0)
  (.node (nB 0) (lA (nB 0) 12) (fA 13)) (lA (nB 0) 13)))) (.node (nB 0) (.node (nB 0) (.node (nB 0) (.node (nB 0) (lA (nB 0) 12) (fA 13)) (.node (nB 0) (lA (nB 0) 12) (fA 13)))
  (.node (nB 0) (.node (nB 0) (lA (nB 0) 12) (fA 13)) (lA (nB 0) 13))) (.node (nB 0) (.node (nB 0) (.node (nB 0) (lA (nB 0) 12) (fA 13)) (.node (nB 0) (lA (nB 0) 12) (fA 13))) (.node
  (nB 0) (.node (nB 0) (lA (nB 0) 12) (fA 13)) (lA (nB 0) 13))))) (.node (nB 0) (.node (nB 0) (.node (nB 0) (.node (nB 0) (.node (nB 0) (lA (nB 0) 12) (fA 13)) (.node (nB 0) (lA (nB
  0) 12) (fA 13))) (.node (nB 0) (.node (nB 0) (lA (nB 0) 12) (fA 13)) (lA (nB 0) 13))) (.node (nB 0) (.node (nB 0) (.node (nB 0) (lA (nB 0) 12) (fA 13)) (.node (nB 0) (lA (nB 0) 12)
  (fA 13))) (.node (nB 0) (.node (nB 0) (lA (nB 0) 12) (fA 13)) (lA (nB 0) 13)))) (.node (nB 0) (.node (nB 0) (.node (nB 0) (.node (nB 0) (lA (nB 0) 12) (fA 13)) (.node (nB 0) (lA
  (nB 0) 12) (fA 13))) (.node (nB 0) (.node (nB 0) (lA (nB 0) 12) (fA 13)) (lA (nB 0) 13))) (.node (nB 0) (.node (nB 0) (.node (nB 0) (lA (nB 0) 12) (fA 13)) (.node (nB 0) (lA (nB 0)
  12) (fA 13))) (.node (nB 0) (.node (nB 0) (lA (nB 0) 12) (fA 13)) (lA (nB 0) 13)))))) (.node (nB 0) (.node (nB 0) (.node (nB 0) (.node (nB 0) (.node (nB 0) (.node (nB 0) (lA (nB 0)
  12) (fA 13)) (.node (nB 0) (lA (nB 0) 12) (fA 13))) (.node (nB 0) (.node (nB 0) (lA (nB 0) 12) (fA 13)) (lA (nB 0) 13))) (.node (nB 0) (.node (nB 0) (.node (nB 0) (lA (nB 0) 12)
  (fA 13)) (.node (nB 0) (lA (nB 0) 12) (fA 13))) (.node (nB 0) (.node (nB 0) (lA (nB 0) 12) (fA 13)) (lA (nB 0) 13)))) (.node (nB 0) (.node (nB 0) (.node (nB 0) (.node (nB 0) (lA
  (nB 0) 12) (fA 13)) (.node (nB 0) (lA (nB 0) 12) (fA 13))) (.node (nB 0) (.node (nB 0) (lA (nB 0) 12) (fA 13)) (lA (nB 0) 13))) (.node (nB 0) (.node (nB 0) (.node (nB 0) (lA (nB 0)
  12) (fA 13)) (.node (nB 0) (lA (nB 0) 12) (fA 13))) (.node (nB 0) (.node (nB 0) (lA (nB 0) 12) (fA 13)) (lA (nB 0) 13))))) (.node (nB 0) (.node (nB 0) (.node (nB 0) (.node (nB 0)
  (.node (nB 0) (lA (nB 0) 12) (fA 13)) (.node (nB 0) (lA (nB 0) 12) (fA 13))) (.node (nB 0) (.node (nB 0) (lA (nB 0) 12) (fA 13)) (lA (nB 0) 13))) (.node (nB 0) (.node (nB 0) (.node
  (nB 0) (lA (nB 0) 12) (fA 13)) (.node (nB 0) (lA (nB 0) 12) (fA 13))) (.node (nB 0) (.node (nB 0) (lA (nB 0) 12) (fA 13)) (lA (nB 0) 13)))) (.node (nB 0) (.node (nB 0) (.node (nB
  0) (.node (nB 0) (lA (nB 0) 12) (fA 13)) (.node (nB 0) (lA (nB 0) 12) (fA 13))) (.node (nB 0) (.node (nB 0) (lA (nB 0) 12) (fA 13)) (lA (nB 0) 13))) (.node (nB 0) (.node (nB 0)
  (.node (nB 0) (lA (nB 0) 12) (fA 13)) (.node (nB 0) (lA (nB 0) 12) (fA 13))) (.node (nB 0) (.node (nB 0) (lA (nB 0) 12) (fA 13)) (lA (nB 0) 13)))))))))) (.node (nB 83) (.node (nB
  70) (.node (nB 0) (.node (nB 64) (.node (nB 0) (.node (nB 0) (.node (nB 0) (.node (nB 0) (.node (nB 0) (.node (nB 3) (lA (nB 0) 12) (fA 13)) (.node (nB 0) (lA (nB 0) 12) (fA 13)))
  (.node (nB 0) (.node (nB 0) (lA (nB 0) 12) (fA 13)) (lA (nB 0) 13))) (.node (nB 0) (.node (nB 0) (.node (nB 0) (lA (nB 0) 12) (fA 13)) (.node (nB 0) (lA (nB 0) 12) (fA 13))) (.node
  (nB 0) (.node (nB 0) (lA (nB 0) 12) (fA 13)) (lA (nB 0) 13)))) (.node (nB 0) (.node (nB 0) (.node (nB 0) (.node (nB 0) (lA (nB 0) 12) (fA 13)) (.node (nB 0) (lA (nB 0) 12) (fA
  13))) (.node (nB 0) (.node (nB 0) (lA (nB 0) 12) (fA 13)) (lA (nB 0) 13))) (.node (nB 0) (.node (nB 0) (.node (nB 0) (lA (nB 0) 12) (fA 13)) (.node (nB 0) (lA (nB 0) 12) (fA 13)))
  (.node (nB 0) (.node (nB 0) (lA (nB 0) 12) (fA 13)) (lA (nB 0) 13))))) (.node (nB 0) (.node (nB 0) (.node (nB 0) (.node (nB 0) (.node (nB 0) (lA (nB 0) 12) (fA 13)) (.node (nB 0)
  (lA (nB 0) 12) (fA 13))) (.node (nB 0) (.node (nB 0) (lA (nB 0) 12) (fA 13)) (lA (nB 0) 13))) (.node (nB 0) (.node (nB 0) (.node (nB 0) (lA (nB 0) 12) (fA 13)) (.node (nB 0) (lA
  (nB 0) 12) (fA 13))) (.node (nB 0) (.node (nB 0) (lA (nB 0) 12) (fA 13)) (lA (nB 0) 13)))) (.node (nB 0) (.node (nB 0) (.node (nB 0) (.node (nB 64) (lA (nB 0) 12) (fA 13)) (.node
  (nB 0) (lA (nB 0) 12) (fA 13))) (.node (nB 0) (.node (nB 0) (lA (nB 0) 12) (fA 13)) (lA (nB 0) 13))) (.node (nB 0) (.node (nB 0) (.node (nB 0) (lA (nB 0) 12) (fA 13)) (.node (nB 0)
  (lA (nB 0) 12) (fA 13))) (.node (nB 0) (.node (nB 0) (lA (nB 0) 12) (fA 13)) (lA (nB 0) 13)))))) (.node (nB 0) (.node (nB 0) (.node (nB 0) (.node (nB 0) (.node (nB 0) (.node (nB 0)
  (lA (nB 0) 12) (fA 13)) (.node (nB 0) (lA (nB 0) 12) (fA 13))) (.node (nB 0) (.node (nB 0) (lA (nB 0) 12) (fA 13)) (lA (nB 0) 13))) (.node (nB 0) (.node (nB 0) (.node (nB 0) (lA
  (nB 0) 12) (fA 13)) (.node (nB 0) (lA (nB 0) 12) (fA 13))) (.node (nB 0) (.node (nB 0) (lA (nB 0) 12) (fA 13)) (lA (nB 0) 13)))) (.node (nB 0) (.node (nB 0) (.node (nB 0) (.node
  (nB 0) (lA (nB 0) 12) (fA 13)) (.node (nB 0) (lA (nB 0) 12) (fA 13))) (.node (nB 0) (.node (nB 0) (lA (nB 0) 12) (fA 13)) (lA (nB 0) 13))) (.node (nB 0) (.node (nB 0) (.node (nB 0)
  (lA (nB 0) 12) (fA 13)) (.node (nB 0) (lA (nB 0) 12) (fA 13))) (.node (nB 0) (.node (nB 0) (lA (nB 0) 12) (fA 13)) (lA (nB 0) 13))))) (.node (nB 0) (.node (nB 0) (.node (nB 0)
  (.node (nB 0) (.node (nB 0) (lA (nB 0) 12) (fA 13)) (.node (nB 0) (lA (nB 0) 12) (fA 13))) (.node (nB 0) (.node (nB 0) (lA (nB 0) 12) (fA 13)) (lA (nB 0) 13))) (.node (nB 0) (.node
  (nB 0) (.node (nB 0) (lA (nB 0) 12) (fA 13)) (.node (nB 0) (lA (nB 0) 12) (fA 13))) (.node (nB 0) (.node (nB 0) (lA (nB 0) 12) (fA 13)) (lA (nB 0) 13)))) (.node (nB 0) (.node (nB
  0) (.node (nB 0) (.node (nB 0) (lA (nB 0) 12) (fA 13)) (.node (nB 0) (lA (nB 0) 12) (fA 13))) (.node (nB 0) (.node (nB 0) (lA (nB 0) 12) (fA 13)) (lA (nB 0) 13))) (.node (nB 0)
  (.node (nB 0) (.node (nB 0) (lA (nB 0) 12) (fA 13)) (.node (nB 0) (lA (nB 0) 12) (fA 13))) (.node (nB 0) (.node (nB 0) (lA (nB 0) 12) (fA 13)) (lA (nB 0) 13))))))) (.node (nB 255)
  (.node (nB 0) (.node (nB 0) (.node (nB 0) (.node (nB 0) (.node (nB 0) (.node (nB 1) (lA (nB 0) 12) (fA 13)) (.node (nB 0) (lA (nB 0) 12) (fA 13))) (.node (nB 0) (.node (nB 0) (lA
  (nB 0) 12) (fA 13)) (lA (nB 0) 13))) (.node (nB 0) (.node (nB 0) (.node (nB 0) (lA (nB 0) 12) (fA 13)) (.node (nB 0) (lA (nB 0) 12) (fA 13))) (.node (nB 0) (.node (nB 0) (lA (nB 0)
  12) (fA 13)) (lA (nB 0) 13)))) (.node (nB 0) (.node (nB 0) (.node (nB 0) (.node (nB 0) (lA (nB 0) 12) (fA 13)) (.node (nB 0) (lA (nB 0) 12) (fA 13))) (.node (nB 0) (.node (nB 0)
  (lA (nB 0) 12) (fA 13)) (lA (nB 0) 13))) (.node (nB 0) (.node (nB 0) (.node (nB 0) (lA (nB 0) 12) (fA 13)) (.node (nB 0) (lA (nB 0) 12) (fA 13))) (.node (nB 0) (.node (nB 0) (lA
  (nB 0) 12) (fA 13)) (lA (nB 0) 13))))) (.node (nB 0) (.node (nB 0) (.node (nB 0) (.node (nB 0) (.node (nB 0) (lA (nB 0) 12) (fA 13)) (.node (nB 0) (lA (nB 0) 12) (fA 13))) (.node
  (nB 0) (.node (nB 0) (lA (nB 0) 12) (fA 13)) (lA (nB 0) 13))) (.node (nB 0) (.node (nB 0) (.node (nB 0) (lA (nB 0) 12) (fA 13)) (.node (nB 0) (lA (nB 0) 12) (fA 13))) (.node (nB 0)
  (.node (nB 0) (lA (nB 0) 12) (fA 13)) (lA (nB 0) 13)))) (.node (nB 0) (.node (nB 0) (.node (nB 0) (.node (nB 0) (lA (nB 0) 12) (fA 13)) (.node (nB 0) (lA (nB 0) 12) (fA 13)))
  (.node (nB 0) (.node (nB 0) (lA (nB 0) 12) (fA 13)) (lA (nB 0) 13))) (.node (nB 0) (.node (nB 0) (.node (nB 0) (lA (nB 0) 12) (fA 13)) (.node (nB 0) (lA (nB 0) 12) (fA 13))) (.node
  (nB 0) (.node (nB 0) (lA (nB 0) 12) (fA 13)) (lA (nB 0) 13)))))) (.node (nB 0) (.node (nB 0) (.node (nB 0) (.node (nB 0) (.node (nB 0) (.node (nB 0) (lA (nB 0) 12) (fA 13)) (.node
  (nB 0) (lA (nB 0) 12) (fA 13))) (.node (nB 0) (.node (nB 0) (lA (nB 0) 12) (fA 13)) (lA (nB 0) 13))) (.node (nB 0) (.node (nB 0) (.node (nB 0) (lA (nB 0) 12) (fA 13)) (.node (nB 0)
  (lA (nB 0) 12) (fA 13))) (.node (nB 0) (.node (nB 0) (lA (nB 0) 12) (fA 13)) (lA (nB 0) 13)))) (.node (nB 0) (.node (nB 0) (.node (nB 0) (.node (nB 0) (lA (nB 0) 12) (fA 13))
  (.node (nB 0) (lA (nB 0) 12) (fA 13))) (.node (nB 0) (.node (nB 0) (lA (nB 0) 12) (fA 13)) (lA (nB 0) 13))) (.node (nB 0) (.node (nB 0) (.node (nB 0) (lA (nB 0) 12) (fA 13)) (.node
  (nB 0) (lA (nB 0) 12) (fA 13))) (.node (nB 0) (.node (nB 0) (lA (nB 0) 12) (fA 13)) (lA (nB 0) 13))))) (.node (nB 0) (.node (nB 0) (.node (nB 0) (.node (nB 0) (.node (nB 0) (lA (nB
  0) 12) (fA 13)) (.node (nB 0) (lA (nB 0) 12) (fA 13))) (.node (nB 0) (.node (nB 0) (lA (nB 0) 12) (fA 13)) (lA (nB 0) 13))) (.node (nB 0) (.node (nB 0) (.node (nB 0) (lA (nB 0) 12)
  (fA 13)) (.node (nB 0) (lA (nB 0) 12) (fA 13))) (.node (nB 0) (.node (nB 0) (lA (nB 0) 12) (fA 13)) (lA (nB 0) 13)))) (.node (nB 0) (.node (nB 0) (.node (nB 0) (.node (nB 0) (lA
  (nB 0) 12) (fA 13)) (.node (nB 0) (lA (nB 0) 12) (fA 13))) (.node (nB 0) (.node (nB 0) (lA (nB 0) 12) (fA 13)) (lA (nB 0) 13))) (.node (nB 0) (.node (nB 0) (.node (nB 0) (lA (nB 0)
  12) (fA 13)) (.node (nB 0) (lA (nB 0) 12) (fA 13))) (.node (nB 0) (.node (nB 0) (lA (nB 0) 12) (fA 13)) (lA (nB 0) 13)))))))) (.node (nB 0) (.node (nB 0) (.node (nB 0) (.node (nB
  0) (.node (nB 0) (.node (nB 0) (.node (nB 0) (.node (nB 0) (lA (nB 0) 12) (fA 13)) (.node (nB 0) (lA (nB 0) 12) (fA 13))) (.node (nB 0) (.node (nB 0) (lA (nB 0) 12) (fA 13)) (lA
  (nB 0) 13))) (.node (nB 0) (.node (nB 0) (.node (nB 0) (lA (nB 0) 12) (fA 13)) (.node (nB 0) (lA (nB 0) 12) (fA 13))) (.node (nB 0) (.node (nB 0) (lA (nB 0) 12) (fA 13)) (lA (nB 0)
  13)))) (.node (nB 0) (.node (nB 0) (.node (nB 0) (.node (nB 69) (lA (nB 0) 12) (fA 13)) (.node (nB 0) (lA (nB 0) 12) (fA 13))) (.node (nB 0) (.node (nB 0) (lA (nB 0) 12) (fA 13))
  (lA (nB 0) 13))) (.node (nB 0) (.node (nB 0) (.node (nB 0) (lA (nB 0) 12) (fA 13)) (.node (nB 0) (lA (nB 0) 12) (fA 13))) (.node (nB 0) (.node (nB 0) (lA (nB 0) 12) (fA 13)) (lA
  (nB 0) 13))))) (.node (nB 0) (.node (nB 0) (.node (nB 0) (.node (nB 0) (.node (nB 0) (lA (nB 0) 12) (fA 13)) (.node (nB 0) (lA (nB 0) 12) (fA 13))) (.node (nB 0) (.node (nB 0) (lA
  (nB 0) 12) (fA 13)) (lA (nB 0) 13))) (.node (nB 0) (.node (nB 0) (.node (nB 0) (lA (nB 0) 12) (fA 13)) (.node (nB 0) (lA (nB 0) 12) (fA 13))) (.node (nB 0) (.node (nB 0) (lA (nB 0)
  12) (fA 13)) (lA (nB 0) 13)))) (.node (nB 0) (.node (nB 0) (.node (nB 0) (.node (nB 0) (lA (nB 0) 12) (fA 13)) (.node (nB 0) (lA (nB 0) 12) (fA 13))) (.node (nB 0) (.node (nB 0)
  (lA (nB 0) 12) (fA 13)) (lA (nB 0) 13))) (.node (nB 0) (.node (nB 0) (.node (nB 0) (lA (nB 0) 12) (fA 13)) (.node (nB 0) (lA (nB 0) 12) (fA 13))) (.node (nB 0) (.node (nB 0) (lA
  (nB 0) 12) (fA 13)) (lA (nB 0) 13)))))) (.node (nB 0) (.node (nB 0) (.node (nB 0) (.node (nB 0) (.node (nB 0) (.node (nB 0) (lA (nB 0) 12) (fA 13)) (.node (nB 0) (lA (nB 0) 12) (fA
  13))) (.node (nB 0) (.node (nB 0) (lA (nB 0) 12) (fA 13)) (lA (nB 0) 13))) (.node (nB 0) (.node (nB 0) (.node (nB 0) (lA (nB 0) 12) (fA 13)) (.node (nB 0) (lA (nB 0) 12) (fA 13)))
  (.node (nB 0) (.node (nB 0) (lA (nB 0) 12) (fA 13)) (lA (nB 0) 13)))) (.node (nB 0) (.node (nB 0) (.node (nB 0) (.node (nB 0) (lA (nB 0) 12) (fA 13)) (.node (nB 0) (lA (nB 0) 12)
  (fA 13))) (.node (nB 0) (.node (nB 0) (lA (nB 0) 12) (fA 13)) (lA (nB 0) 13))) (.node (nB 0) (.node (nB 0) (.node (nB 0) (lA (nB 0) 12) (fA 13)) (.node (nB 0) (lA (nB 0) 12) (fA
  13))) (.node (nB 0) (.node (nB 0) (lA (nB 0) 12) (fA 13)) (lA (nB 0) 13))))) (.node (nB 0) (.node (nB 0) (.node (nB 0) (.node (nB 0) (.node (nB 0) (lA (nB 0) 12) (fA 13)) (.node
  (nB 0) (lA (nB 0) 12) (fA 13))) (.node (nB 0) (.node (nB 0) (lA (nB 0) 12) (fA 13)) (lA (nB 0) 13))) (.node (nB 0) (.node (nB 0) (.node (nB 0) (lA (nB 0) 12) (fA 13)) (.node (nB 0)
  (lA (nB 0) 12) (fA 13))) (.node (nB 0) (.node (nB 0) (lA (nB 0) 12) (fA 13)) (lA (nB 0) 13)))) (.node (nB 0) (.node (nB 0) (.node (nB 0) (.node (nB 0) (lA (nB 0) 12) (fA 13))
  (.node (nB 0) (lA (nB 0) 12) (fA 13))) (.node (nB 0) (.node (nB 0) (lA (nB 0) 12) (fA 13)) (lA (nB 0) 13))) (.node (nB 0) (.node (nB 0) (.node (nB 0) (lA (nB 0) 12) (fA 13)) (.node
  (nB 0) (lA (nB 0) 12) (fA 13))) (.node (nB 0) (.node (nB 0) (lA (nB 0) 12) (fA 13)) (lA (nB 0) 13))))))) (.node (nB 255) (.node (nB 0) (.node (nB 0) (.node (nB 0) (.node (nB 0)
  (.node (nB 0) (.node (nB 0) (lA (nB 0) 12) (fA 13)) (.node (nB 0) (lA (nB 0) 12) (fA 13))) (.node (nB 0) (.node (nB 0) (lA (nB 0) 12) (fA 13)) (lA (nB 0) 13))) (.node (nB 0) (.node
  (nB 0) (.node (nB 0) (lA (nB 0) 12) (fA 13)) (.node (nB 0) (lA (nB 0) 12) (fA 13))) (.node (nB 0) (.node (nB 0) (lA (nB 0) 12) (fA 13)) (lA (nB 0) 13)))) (.node (nB 0) (.node (nB
  0) (.node (nB 0) (.node (nB 0) (lA (nB 0) 12) (fA 13)) (.node (nB 0) (lA (nB 0) 12) (fA 13))) (.node (nB 0) (.node (nB 0) (lA (nB 0) 12) (fA 13)) (lA (nB 0) 13))) (.node (nB 0)
  (.node (nB 0) (.node (nB 0) (lA (nB 0) 12) (fA 13)) (.node (nB 0) (lA (nB 0) 12) (fA 13))) (.node (nB 0) (.node (nB 0) (lA (nB 0) 12) (fA 13)) (lA (nB 0) 13))))) (.node (nB 0)
  (.node (nB 0) (.node (nB 0) (.node (nB 0) (.node (nB 0) (lA (nB 0) 12) (fA 13)) (.node (nB 0) (lA (nB 0) 12) (fA 13))) (.node (nB 0) (.node (nB 0) (lA (nB 0) 12) (fA 13)) (lA (nB
  0) 13))) (.node (nB 0) (.node (nB 0) (.node (nB 0) (lA (nB 0) 12) (fA 13)) (.node (nB 0) (lA (nB 0) 12) (fA 13))) (.node (nB 0) (.node (nB 0) (lA (nB 0) 12) (fA 13)) (lA (nB 0)
  13)))) (.node (nB 0) (.node (nB 0) (.node (nB 0) (.node (nB 0) (lA (nB 0) 12) (fA 13)) (.node (nB 0) (lA (nB 0) 12) (fA 13))) (.node (nB 0) (.node (nB 0) (lA (nB 0) 12) (fA 13))
  (lA (nB 0) 13))) (.node (nB 0) (.node (nB 0) (.node (nB 0) (lA (nB 0) 12) (fA 13)) (.node (nB 0) (lA (nB 0) 12) (fA 13))) (.node (nB 0) (.node (nB 0) (lA (nB 0) 12) (fA 13)) (lA
  (nB 0) 13)))))) (.node (nB 0) (.node (nB 0) (.node (nB 0) (.node (nB 0) (.node (nB 0) (.node (nB 0) (lA (nB 0) 12) (fA 13)) (.node (nB 0) (lA (nB 0) 12) (fA 13))) (.node (nB 0)
  (.node (nB 0) (lA (nB 0) 12) (fA 13)) (lA (nB 0) 13))) (.node (nB 0) (.node (nB 0) (.node (nB 0) (lA (nB 0) 12) (fA 13)) (.node (nB 0) (lA (nB 0) 12) (fA 13))) (.node (nB 0) (.node
  (nB 0) (lA (nB 0) 12) (fA 13)) (lA (nB 0) 13)))) (.node (nB 0) (.node (nB 0) (.node (nB 0) (.node (nB 0) (lA (nB 0) 12) (fA 13)) (.node (nB 0) (lA (nB 0) 12) (fA 13))) (.node (nB
  0) (.node (nB 0) (lA (nB 0) 12) (fA 13)) (lA (nB 0) 13))) (.node (nB 0) (.node (nB 0) (.node (nB 0) (lA (nB 0) 12) (fA 13)) (.node (nB 0) (lA (nB 0) 12) (fA 13))) (.node (nB 0)
  (.node (nB 0) (lA (nB 0) 12) (fA 13)) (lA (nB 0) 13))))) (.node (nB 0) (.node (nB 0) (.node (nB 0) (.node (nB 0) (.node (nB 0) (lA (nB 0) 12) (fA 13)) (.node (nB 0) (lA (nB 0) 12)
  (fA 13))) (.node (nB 0) (.node (nB 0) (lA (nB 0) 12) (fA 13)) (lA (nB 0) 13))) (.node (nB 0) (.node (nB 0) (.node (nB 0) (lA (nB 0) 12) (fA 13)) (.node (nB 0) (lA (nB 0) 12) (fA
  13))) (.node (nB 0) (.node (nB 0) (lA (nB 0) 12) (fA 13)) (lA (nB 0) 13)))) (.node (nB 0) (.node (nB 0) (.node (nB 0) (.node (nB 0) (lA (nB 0) 12) (fA 13)) (.node (nB 0) (lA (nB 0)
  12) (fA 13))) (.node (nB 0) (.node (nB 0) (lA (nB 0) 12) (fA 13)) (lA (nB 0) 13))) (.node (nB 0) (.node (nB 0) (.node (nB 0) (lA (nB 0) 12) (fA 13)) (.node (nB 0) (lA (nB 0) 12)
  (fA 13))) (.node (nB 0) (.node (nB 0) (lA (nB 0) 12) (fA 13)) (lA (nB 0) 13))))))))) (.node (nB 73) (.node (nB 0) (.node (nB 0) (.node (nB 0) (.node (nB 0) (.node (nB 0) (.node (nB
  0) (.node (nB 0) (.node (nB 0) (lA (nB 0) 12) (fA 13)) (.node (nB 0) (lA (nB 0) 12) (fA 13))) (.node (nB 0) (.node (nB 0) (lA (nB 0) 12) (fA 13)) (lA (nB 0) 13))) (.node (nB 0)
  (.node (nB 0) (.node (nB 0) (lA (nB 0) 12) (fA 13)) (.node (nB 0) (lA (nB 0) 12) (fA 13))) (.node (nB 0) (.node (nB 0) (lA (nB 0) 12) (fA 13)) (lA (nB 0) 13)))) (.node (nB 0)
  (.node (nB 0) (.node (nB 0) (.node (nB 0) (lA (nB 0) 12) (fA 13)) (.node (nB 0) (lA (nB 0) 12) (fA 13))) (.node (nB 0) (.node (nB 0) (lA (nB 0) 12) (fA 13)) (lA (nB 0) 13))) (.node
  (nB 0) (.node (nB 0) (.node (nB 0) (lA (nB 0) 12) (fA 13)) (.node (nB 0) (lA (nB 0) 12) (fA 13))) (.node (nB 0) (.node (nB 0) (lA (nB 0) 12) (fA 13)) (lA (nB 0) 13))))) (.node (nB
  0) (.node (nB 0) (.node (nB 0) (.node (nB 0) (.node (nB 0) (lA (nB 0) 12) (fA 13)) (.node (nB 0) (lA (nB 0) 12) (fA 13))) (.node (nB 0) (.node (nB 0) (lA (nB 0) 12) (fA 13)) (lA
  (nB 0) 13))) (.node (nB 0) (.node (nB 0) (.node (nB 0) (lA (nB 0) 12) (fA 13)) (.node (nB 0) (lA (nB 0) 12) (fA 13))) (.node (nB 0) (.node (nB 0) (lA (nB 0) 12) (fA 13)) (lA (nB 0)
  13)))) (.node (nB 0) (.node (nB 0) (.node (nB 0) (.node (nB 0) (lA (nB 0) 12) (fA 13)) (.node (nB 0) (lA (nB 0) 12) (fA 13))) (.node (nB 0) (.node (nB 0) (lA (nB 0) 12) (fA 13))
  (lA (nB 0) 13))) (.node (nB 0) (.node (nB 0) (.node (nB 0) (lA (nB 0) 12) (fA 13)) (.node (nB 0) (lA (nB 0) 12) (fA 13))) (.node (nB 0) (.node (nB 0) (lA (nB 0) 12) (fA 13)) (lA
  (nB 0) 13)))))) (.node (nB 0) (.node (nB 0) (.node (nB 0) (.node (nB 0) (.node (nB 0) (.node (nB 0) (lA (nB 0) 12) (fA 13)) (.node (nB 0) (lA (nB 0) 12) (fA 13))) (.node (nB 0)
  (.node (nB 0) (lA (nB 0) 12) (fA 13)) (lA (nB 0) 13))) (.node (nB 0) (.node (nB 0) (.node (nB 0) (lA (nB 0) 12) (fA 13)) (.node (nB 0) (lA (nB 0) 12) (fA 13))) (.node (nB 0) (.node
  (nB 0) (lA (nB 0) 12) (fA 13)) (lA (nB 0) 13)))) (.node (nB 0) (.node (nB 0) (.node (nB 0) (.node (nB 0) (lA (nB 0) 12) (fA 13)) (.node (nB 0) (lA (nB 0) 12) (fA 13))) (.node (nB
  0) (.node (nB 0) (lA (nB 0) 12) (fA 13)) (lA (nB 0) 13))) (.node (nB 0) (.node (nB 0) (.node (nB 0) (lA (nB 0) 12) (fA 13)) (.node (nB 0) (lA (nB 0) 12) (fA 13))) (.node (nB 0)
  (.node (nB 0) (lA (nB 0) 12) (fA 13)) (lA (nB 0) 13))))) (.node (nB 0) (.node (nB 0) (.node (nB 0) (.node (nB 0) (.node (nB 0) (lA (nB 0) 12) (fA 13)) (.node (nB 0) (lA (nB 0) 12)
  (fA 13))) (.node (nB 0) (.node (nB 0) (lA (nB 0) 12) (fA 13)) (lA (nB 0) 13))) (.node (nB 0) (.node (nB 0) (.node (nB 0) (lA (nB 0) 12) (fA 13)) (.node (nB 0) (lA (nB 0) 12) (fA
  13))) (.node (nB 0) (.node (nB 0) (lA (nB 0) 12) (fA 13)) (lA (nB 0) 13)))) (.node (nB 0) (.node (nB 0) (.node (nB 0) (.node (nB 0) (lA (nB 0) 12) (fA 13)) (.node (nB 0) (lA (nB 0)
  12) (fA 13))) (.node (nB 0) (.node (nB 0) (lA (nB 0) 12) (fA 13)) (lA (nB 0) 13))) (.node (nB 0) (.node (nB 0) (.node (nB 0) (lA (nB 0) 12) (fA 13)) (.node (nB 0) (lA (nB 0) 12)
  (fA 13))) (.node (nB 0) (.node (nB 0) (lA (nB 0) 12) (fA 13)) (lA (nB 0) 13))))))) (.node (nB 255) (.node (nB 0) (.node (nB 0) (.node (nB 0) (.node (nB 0) (.node (nB 0) (.node (nB
  0) (lA (nB 0) 12) (fA 13)) (.node (nB 0) (lA (nB 0) 12) (fA 13))) (.node (nB 0) (.node (nB 0) (lA (nB 0) 12) (fA 13)) (lA (nB 0) 13))) (.node (nB 0) (.node (nB 0) (.node (nB 0) (lA
  (nB 0) 12) (fA 13)) (.node (nB 0) (lA (nB 0) 12) (fA 13))) (.node (nB 0) (.node (nB 0) (lA (nB 0) 12) (fA 13)) (lA (nB 0) 13)))) (.node (nB 0) (.node (nB 0) (.node (nB 0) (.node
  (nB 0) (lA (nB 0) 12) (fA 13)) (.node (nB 0) (lA (nB 0) 12) (fA 13))) (.node (nB 0) (.node (nB 0) (lA (nB 0) 12) (fA 13)) (lA (nB 0) 13))) (.node (nB 0) (.node (nB 0) (.node (nB 0)
  (lA (nB 0) 12) (fA 13)) (.node (nB 0) (lA (nB 0) 12) (fA 13))) (.node (nB 0) (.node (nB 0) (lA (nB 0) 12) (fA 13)) (lA (nB 0) 13))))) (.node (nB 0) (.node (nB 0) (.node (nB 0)
  (.node (nB 0) (.node (nB 0) (lA (nB 0) 12) (fA 13)) (.node (nB 0) (lA (nB 0) 12) (fA 13))) (.node (nB 0) (.node (nB 0) (lA (nB 0) 12) (fA 13)) (lA (nB 0) 13))) (.node (nB 0) (.node
  (nB 0) (.node (nB 0) (lA (nB 0) 12) (fA 13)) (.node (nB 0) (lA (nB 0) 12) (fA 13))) (.node (nB 0) (.node (nB 0) (lA (nB 0) 12) (fA 13)) (lA (nB 0) 13)))) (.node (nB 0) (.node (nB
  0) (.node (nB 0) (.node (nB 0) (lA (nB 0) 12) (fA 13)) (.node (nB 0) (lA (nB 0) 12) (fA 13))) (.node (nB 0) (.node (nB 0) (lA (nB 0) 12) (fA 13)) (lA (nB 0) 13))) (.node (nB 0)
  (.node (nB 0) (.node (nB 0) (lA (nB 0) 12) (fA 13)) (.node (nB 0) (lA (nB 0) 12) (fA 13))) (.node (nB 0) (.node (nB 0) (lA (nB 0) 12) (fA 13)) (lA (nB 0) 13)))))) (.node (nB 0)
  (.node (nB 0) (.node (nB 0) (.node (nB 0) (.node (nB 0) (.node (nB 0) (lA (nB 0) 12) (fA 13)) (.node (nB 0) (lA (nB 0) 12) (fA 13))) (.node (nB 0) (.node (nB 0) (lA (nB 0) 12) (fA
  13)) (lA (nB 0) 13))) (.node (nB 0) (.node (nB 0) (.node (nB 0) (lA (nB 0) 12) (fA 13)) (.node (nB 0) (lA (nB 0) 12) (fA 13))) (.node (nB 0) (.node (nB 0) (lA (nB 0) 12) (fA 13))
  (lA (nB 0) 13)))) (.node (nB 0) (.node (nB 0) (.node (nB 0) (.node (nB 0) (lA (nB 0) 12) (fA 13)) (.node (nB 0) (lA (nB 0) 12) (fA 13))) (.node (nB 0) (.node (nB 0) (lA (nB 0) 12)
  (fA 13)) (lA (nB 0) 13))) (.node (nB 0) (.node (nB 0) (.node (nB 0) (lA (nB 0) 12) (fA 13)) (.node (nB 0) (lA (nB 0) 12) (fA 13))) (.node (nB 0) (.node (nB 0) (lA (nB 0) 12) (fA
  13)) (lA (nB 0) 13))))) (.node (nB 0) (.node (nB 0) (.node (nB 0) (.node (nB 0) (.node (nB 0) (lA (nB 0) 12) (fA 13)) (.node (nB 0) (lA (nB 0) 12) (fA 13))) (.node (nB 0) (.node
  (nB 0) (lA (nB 0) 12) (fA 13)) (lA (nB 0) 13))) (.node (nB 0) (.node (nB 0) (.node (nB 0) (lA (nB 0) 12) (fA 13)) (.node (nB 0) (lA (nB 0) 12) (fA 13))) (.node (nB 0) (.node (nB 0)
  (lA (nB 0) 12) (fA 13)) (lA (nB 0) 13)))) (.node (nB 0) (.node (nB 0) (.node (nB 0) (.node (nB 0) (lA (nB 0) 12) (fA 13)) (.node (nB 0) (lA (nB 0) 12) (fA 13))) (.node (nB 0)
  (.node (nB 0) (lA (nB 0) 12) (fA 13)) (lA (nB 0) 13))) (.node (nB 0) (.node (nB 0) (.node (nB 0) (lA (nB 0) 12) (fA 13)) (.node (nB 0) (lA (nB 0) 12) (fA 13))) (.node (nB 0) (.node
  (nB 0) (lA (nB 0) 12) (fA 13)) (lA (nB 0) 13)))))))) (.node (nB 0) (.node (nB 0) (.node (nB 0) (.node (nB 0) (.node (nB 0) (.node (nB 0) (.node (nB 0) (.node (nB 0) (lA (nB 0) 12)
  (fA 13)) (.node (nB 0) (lA (nB 0) 12) (fA 13))) (.node (nB 0) (.node (nB 0) (lA (nB 0) 12) (fA 13)) (lA (nB 0) 13))) (.node (nB 0) (.node (nB 0) (.node (nB 0) (lA (nB 0) 12) (fA
  13)) (.node (nB 0) (lA (nB 0) 12) (fA 13))) (.node (nB 0) (.node (nB 0) (lA (nB 0) 12) (fA 13)) (lA (nB 0) 13)))) (.node (nB 0) (.node (nB 0) (.node (nB 0) (.node (nB 69) (lA (nB
  0) 12) (fA 13)) (.node (nB 0) (lA (nB 0) 12) (fA 13))) (.node (nB 0) (.node (nB 0) (lA (nB 0) 12) (fA 13)) (lA (nB 0) 13))) (.node (nB 0) (.node (nB 0) (.node (nB 0) (lA (nB 0) 12)
  (fA 13)) (.node (nB 0) (lA (nB 0) 12) (fA 13))) (.node (nB 0) (.node (nB 0) (lA (nB 0) 12) (fA 13)) (lA (nB 0) 13))))) (.node (nB 0) (.node (nB 0) (.node (nB 0) (.node (nB 0)
  (.node (nB 0) (lA (nB 0) 12) (fA 13)) (.node (nB 0) (lA (nB 0) 12) (fA 13))) (.node (nB 0) (.node (nB 0) (lA (nB 0) 12) (fA 13)) (lA (nB 0) 13))) (.node (nB 0) (.node (nB 0) (.node
  (nB 0) (lA (nB 0) 12) (fA 13)) (.node (nB 0) (lA (nB 0) 12) (fA 13))) (.node (nB 0) (.node (nB 0) (lA (nB 0) 12) (fA 13)) (lA (nB 0) 13)))) (.node (nB 0) (.node (nB 0) (.node (nB
  0) (.node (nB 0) (lA (nB 0) 12) (fA 13)) (.node (nB 0) (lA (nB 0) 12) (fA 13))) (.node (nB 0) (.node (nB 0) (lA (nB 0) 12) (fA 13)) (lA (nB 0) 13))) (.node (nB 0) (.node (nB 0)
  (.node (nB 0) (lA (nB 0) 12) (fA 13)) (.node (nB 0) (lA (nB 0) 12) (fA 13))) (.node (nB 0) (.node (nB 0) (lA (nB 0) 12) (fA 13)) (lA (nB 0) 13)))))) (.node (nB 0) (.node (nB 0)
  (.node (nB 0) (.node (nB 0) (.node (nB 0) (.node (nB 0) (lA (nB 0) 12) (fA 13)) (.node (nB 0) (lA (nB 0) 12) (fA 13))) (.node (nB 0) (.node (nB 0) (lA (nB 0) 12) (fA 13)) (lA (nB
  0) 13))) (.node (nB 0) (.node (nB 0) (.node (nB 0) (lA (nB 0) 12) (fA 13)) (.node (nB 0) (lA (nB 0) 12) (fA 13))) (.node (nB 0) (.node (nB 0) (lA (nB 0) 12) (fA 13)) (lA (nB 0)
  13)))) (.node (nB 0) (.node (nB 0) (.node (nB 0) (.node (nB 0) (lA (nB 0) 12) (fA 13)) (.node (nB 0) (lA (nB 0) 12) (fA 13))) (.node (nB 0) (.node (nB 0) (lA (nB 0) 12) (fA 13))
  (lA (nB 0) 13))) (.node (nB 0) (.node (nB 0) (.node (nB 0) (lA (nB 0) 12) (fA 13)) (.node (nB 0) (lA (nB 0) 12) (fA 13))) (.node (nB 0) (.node (nB 0) (lA (nB 0) 12) (fA 13)) (lA
  (nB 0) 13))))) (.node (nB 0) (.node (nB 0) (.node (nB 0) (.node (nB 0) (.node (nB 0) (lA (nB 0) 12) (fA 13)) (.node (nB 0) (lA (nB 0) 12) (fA 13))) (.node (nB 0) (.node (nB 0) (lA
  (nB 0) 12) (fA 13)) (lA (nB 0) 13))) (.node (nB 0) (.node (nB 0) (.node (nB 0) (lA (nB 0) 12) (fA 13)) (.node (nB 0) (lA (nB 0) 12) (fA 13))) (.node (nB 0) (.node (nB 0) (lA (nB 0)
  12) (fA 13)) (lA (nB 0) 13)))) (.node (nB 0) (.node (nB 0) (.node (nB 0) (.node (nB 0) (lA (nB 0) 12) (fA 13)) (.node (nB 0) (lA (nB 0) 12) (fA 13))) (.node (nB 0) (.node (nB 0)
  (lA (nB 0) 12) (fA 13)) (lA (nB 0) 13))) (.node (nB 0) (.node (nB 0) (.node (nB 0) (lA (nB 0) 12) (fA 13)) (.node (nB 0) (lA (nB 0) 12) (fA 13))) (.node (nB 0) (.node (nB 0) (lA
  (nB 0) 12) (fA 13)) (lA (nB 0) 13))))))) (.node (nB 255) (.node (nB 0) (.node (nB 0) (.node (nB 0) (.node (nB 0) (.node (nB 0) (.node (nB 0) (lA (nB 0) 12) (fA 13)) (.node (nB 0)
  (lA (nB 0) 12) (fA 13))) (.node (nB 0) (.node (nB 0) (lA (nB 0) 12) (fA 13)) (lA (nB 0) 13))) (.node (nB 0) (.node (nB 0) (.node (nB 0) (lA (nB 0) 12) (fA 13)) (.node (nB 0) (lA
  (nB 0) 12) (fA 13))) (.node (nB 0) (.node (nB 0) (lA (nB 0) 12) (fA 13)) (lA (nB 0) 13)))) (.node (nB 0) (.node (nB 0) (.node (nB 0) (.node (nB 0) (lA (nB 0) 12) (fA 13)) (.node
  (nB 0) (lA (nB 0) 12) (fA 13))) (.node (nB 0) (.node (nB 0) (lA (nB 0) 12) (fA 13)) (lA (nB 0) 13))) (.node (nB 0) (.node (nB 0) (.node (nB 0) (lA (nB 0) 12) (fA 13)) (.node (nB 0)
  (lA (nB 0) 12) (fA 13))) (.node (nB 0) (.node (nB 0) (lA (nB 0) 12) (fA 13)) (lA (nB 0) 13))))) (.node (nB 0) (.node (nB 0) (.node (nB 0) (.node (nB 0) (.node (nB 0) (lA (nB 0) 12)
  (fA 13)) (.node (nB 0) (lA (nB 0) 12) (fA 13))) (.node (nB 0) (.node (nB 0) (lA (nB 0) 12) (fA 13)) (lA (nB 0) 13))) (.node (nB 0) (.node (nB 0) (.node (nB 0) (lA (nB 0) 12) (fA
  13)) (.node (nB 0) (lA (nB 0) 12) (fA 13))) (.node (nB 0) (.node (nB 0) (lA (nB 0) 12) (fA 13)) (lA (nB 0) 13)))) (.node (nB 0) (.node (nB 0) (.node (nB 0) (.node (nB 0) (lA (nB 0)
  12) (fA 13)) (.node (nB 0) (lA (nB 0) 12) (fA 13))) (.node (nB 0) (.node (nB 0) (lA (nB 0) 12) (fA 13)) (lA (nB 0) 13))) (.node (nB 0) (.node (nB 0) (.node (nB 0) (lA (nB 0) 12)
  (fA 13)) (.node (nB 0) (lA (nB 0) 12) (fA 13))) (.node (nB 0) (.node (nB 0) (lA (nB 0) 12) (fA 13)) (lA (nB 0) 13)))))) (.node (nB 0) (.node (nB 0) (.node (nB 0) (.node (nB 0)
  (.node (nB 0) (.node (nB 0) (lA (nB 0) 12) (fA 13)) (.node (nB 0) (lA (nB 0) 12) (fA 13))) (.node (nB 0) (.node (nB 0) (lA (nB 0) 12) (fA 13)) (lA (nB 0) 13))) (.node (nB 0) (.node
  (nB 0) (.node (nB 0) (lA (nB 0) 12) (fA 13)) (.node (nB 0) (lA (nB 0) 12) (fA 13))) (.node (nB 0) (.node (nB 0) (lA (nB 0) 12) (fA 13)) (lA (nB 0) 13)))) (.node (nB 0) (.node (nB
  0) (.node (nB 0) (.node (nB 0) (lA (nB 0) 12) (fA 13)) (.node (nB 0) (lA (nB 0) 12) (fA 13))) (.node (nB 0) (.node (nB 0) (lA (nB 0) 12) (fA 13)) (lA (nB 0) 13))) (.node (nB 0)
  (.node (nB 0) (.node (nB 0) (lA (nB 0) 12) (fA 13)) (.node (nB 0) (lA (nB 0) 12) (fA 13))) (.node (nB 0) (.node (nB 0) (lA (nB 0) 12) (fA 13)) (lA (nB 0) 13))))) (.node (nB 0)
  (.node (nB 0) (.node (nB 0) (.node (nB 0) (.node (nB 0) (lA (nB 0) 12) (fA 13)) (.node (nB 0) (lA (nB 0) 12) (fA 13))) (.node (nB 0) (.node (nB 0) (lA (nB 0) 12) (fA 13)) (lA (nB
  0) 13))) (.node (nB 0) (.node (nB 0) (.node (nB 0) (lA (nB 0) 12) (fA 13)) (.node (nB 0) (lA (nB 0) 12) (fA 13))) (.node (nB 0) (.node (nB 0) (lA (nB 0) 12) (fA 13)) (lA (nB 0)
  13)))) (.node (nB 0) (.node (nB 0) (.node (nB 0) (.node (nB 0) (lA (nB 0) 12) (fA 13)) (.node (nB 0) (lA (nB 0) 12) (fA 13))) (.node (nB 0) (.node (nB 0) (lA (nB 0) 12) (fA 13))
  (lA (nB 0) 13))) (.node (nB 0) (.node (nB 0) (.node (nB 0) (lA (nB 0) 12) (fA 13)) (.node (nB 0) (lA (nB 0) 12) (fA 13))) (.node (nB 0) (.node (nB 0) (lA (nB 0) 12) (fA 13)) (lA
  (nB 0) 13))))))))))) false false) 11)) (fD 13))) (fD 15))) (lD (.cells 114 7 7 (.node (.sl 967 0 0 384 (.u 967 0)) (.node (.sl 965 0 0 384 (.u 965 0)) (lA (nU 384) 21) (lA (nU 0)
  21)) (.node (.map 191) (lA (nU 0) 21) (lA (nU 0) 21))) true false) 16)) (.node .dead (fD 17) (.node .dead (.node .dead (.node .dead (fD 14) (.node .dead (lD o17 12) (.node .dead
  (lD o15 11) (fD 12)))) (fD 15)) (fD 16)))) (fD 19)) (.node .dead (.node .dead (.node .dead (fD 17) (.node .dead (fD 16) (.node .dead (fD 15) (lD o20 14)))) (fD 18)) (.node .dead
  (.node .dead (fD 17) (.node .dead (.node .dead (fD 15) (.node .dead (fD 14) (lD (.cells 22 1 1 (lA (.ptr 968 0) 23) true false) 13))) (fD 16))) (fD 18)))) (.node .dead (.node .dead
  (.node .dead (fD 18) (lD o7 17)) (.node .dead (lD (.cells 43 1 8 (.node (nU 0) (.node (nU 0) (.node (nU 0) (lA (nU 0) 20) (fA 21)) (lA (nU 0) 21)) (.node (nU 0) (lA (nU 0) 21) (lA
  (nU 0) 21))) false false) 17) (fD 18))) (.node .dead (fD 19) (.node (.map [] 0) (.node .dead (fD 17) (.node .dead (.node .dead (.node .dead (fD 14) (.node .dead (fD 13) (.node
  .dead (lD (.map [⟨(nI 1), (.fn (.func 33) [] []), 0⟩, ⟨(nI 2), (.fn (.func 34) [] []), 1⟩, ⟨(nI 3), (.fn (.func 35) [] []), 2⟩, ⟨(nI 4), (.fn (.func 36) [] []), 3⟩, ⟨(nI 5), (.fn
  (.func 37) [] []), 4⟩, ⟨(nI 6), (.fn (.func 38) [] []), 5⟩, ⟨(nI 7), (.fn (.func 39) [] []), 6⟩] 7) 11) (fD 12)))) (fD 15)) (fD 16))) (fD 18))))) (.node o1 (.node .dead (.node
  .dead (fD 19) (.node .dead (.node (.cells 43 1 8 (.node (nU 0) (.node (nU 0) (.node (nU 0) (lA (nU 0) 20) (fA 21)) (lA (nU 0) 21)) (.node (nU 0) (lA (nU 0) 21) (lA (nU 0) 21)))
  false false) (fD 17) (.node .dead (.node .dead (fD 15) (.node .dead (fD 14) (lD (.cells 106 12 12 (.node (nI 1) (.node (nI 0) (.node (nI 0) (lA (.str (bs [])) 20) (lA (nI 0) 20))
  (.node (nU 0) (lA (nI 0) 20) (fA 21))) (.node (nI 0) (.node (nU 0) (lA (nU 0) 20) (fA 21)) (.node (nI 0) (lA .nilsl 20) (fA 21)))) true false) 13))) (fD 16))) (fD 18))) (.node
  .dead (fD 19) (.node .dead (.node .dead (fD 17) (.node .dead (.node .dead (.node .dead (fD 14) (.node .dead (fD 13) (.node .dead (lD (.cells 49 10 10 (.node (nI 7) (.node (nI 0)
  (.node (nU 0) (lA (nU 0) 20) (fA 21)) (.node (nI 0) (lA .nilsl 20) (fA 21))) (.node (nI 0) (.node (nU 0) (lA (nI 0) 20) (fA 21)) (lA (.str (bs [])) 21))) true false) 11) (fD 12))))
  (.node .dead (fD 14) (lD o25 13))) (fD 16))) (fD 18)))) (.node .dead (fD 20) (.node .dead (fD 19) (.node .dead (.node .dead (fD 17) (.node .dead (.node .dead (.node .dead (fD 14)
  (.node .dead (lD o19 12) (.node .dead (lD (.cells 49 10 10 (.node (nI 7) (.node (nI 0) (.node (nU 0) (lA (nU 0) 20) (fA 21)) (.node (nI 0) (lA .nilsl 20) (fA 21))) (.node (nI 0)
  (.node (nU 0) (lA (nI 0) 20) (fA 21)) (lA (.str (bs [])) 21))) true false) 11) (fD 12)))) (fD 15)) (fD 16))) (fD 18))))))), 6785⟩,
  [.lp (codeAt Tryz.f170 [1, 1, 0, 1, 0, 0]),
  .blk 0, .code (codeAt Tryz.f170 [1, 1, 1])]⟩
noncomputable def o35 : Fr :=
  ⟨130, 19, [⟨(.coll 6887), []⟩], .normal, none, .run, (.node (.sl 6880 0 0 3072 (.u 6880 0)) (.node undefV (.node (nI 0) (lU (nI 3072) 20) (lU (.fn (.func 80) [] [(.ptr 6885 0),
  (.ptr 6886 0)]) 20)) (.node undefV (lU (.bool false) 20) (fU 21))) (.node .nilsl (.node (.ptr 6884 0) (lU (nI 0) 20) (fU 21)) (.node (.sl 6880 0 0 3072 (.u 6880 0)) (lU (.sl 6880 0
  0 3072 (.u 6880 0)) 20) (fU 21)))), [.rf 6888, .blk 0, .code (codeAt Tryz.f130 [1, 1, 1, 1])]⟩
noncomputable def o37 : Fr :=
  ⟨82, 68, [], .normal, none, .run, (.node (.sl 6880 0 0 3072 (.u 6880 0)) (.node undefV (.node (nI 2) (.node undefV (lU (nI 2) 19) (fU 20)) (lU (.tup [(nI 2), (.bool true)]) 20))
  (.node undefV (.node undefV (lU (.bool true) 19) (fU 20)) (lU (nI 3072) 20))) (.node .nil (.node (.bool true) (.node undefV (lU (.bool true) 19) (fU 20)) (.node (.sl 6880 0 0 3072
  (.u 6880 0)) (lU (.sl 6880 0 0 3072 (.u 6880 0)) 19) (fU 20))) (.node undefV (lU undefV 20) (lU (.tup [(nI 2), (.bool true)]) 20)))), [.reg (opsAt Tryz.f82 [1, 1, 1, 0]) ((opsAt
  Tryz.f82 [1, 1, 1, 0]).toList.drop 1), .code (codeAt Tryz.f82 [1, 1, 1, 1])]⟩
noncomputable def o32 : Fr :=
  ⟨45, 80, [], .normal, none, .run, (.node (.sl 6880 0 0 3072 (.u 6880 0)) (fU 23) (.node .nil (.node undefV (lU (.sl 6880 0 0 3072 (.u 6880 0)) 20) (fU 21)) (fU 22))), [.reg (opsAt
  Tryz.f45 [1, 0, 0]) ((opsAt Tryz.f45 [1, 0, 0]).toList.drop 1), .code (codeAt Tryz.f45 [1, 0, 1]), .sc (codeAt Tryz.f45 [1, 0])]⟩
noncomputable def o31 : Fr :=
  ⟨44, 103, [], .normal, none, .run, (.node (.ptr 6881 0) (.node (.ptr 6882 0) (fU 22) (.node undefV (fU 21) (lU (.sl 6880 0 0 3072 (.u 6880 0)) 20))) (fU 23)), [.reg (opsAt Tryz.f44
  [0]) ((opsAt Tryz.f44 [0]).toList.drop 1), .code (codeAt Tryz.f44 [1])]⟩
noncomputable def o34 : Fr :=
  ⟨43, 6, [⟨(.fn (.func 81) [(.ptr 6883 0)]), []⟩], .normal, none, .run, (.node (.fn (.func 44) [] [(.ptr 6881 0), (.ptr 6882 0)]) (.node undefV (lU (.fn (.func 81) [] [(.ptr 6883
  0)]) 21) (fU 22)) (.node (.ptr 6883 0) (lU (.fn (.func 44) [] [(.ptr 6881 0), (.ptr 6882 0)]) 21) (fU 22))), [.reg (opsAt Tryz.f43 [1, 1, 0]) ((opsAt Tryz.f43 [1, 1,
  0]).toList.drop 1), .code (codeAt Tryz.f43 [1, 1, 1])]⟩
noncomputable def o33 : Fr :=
  ⟨18, 8, [], .normal, none, .run, (.node (.sl 6880 0 0 3072 (.u 6880 0)) (.node (.ptr 6881 0) (lU (nI 0) 21) (fU 22)) (.node (.ptr 6882 0) (lU (.fn (.func 44) [] [(.ptr 6881 0),
  (.ptr 6882 0)]) 21) (fU 22))), [.reg (opsAt Tryz.f18 [1, 0]) ((opsAt Tryz.f18 [1, 0]).toList.drop 1), .code (codeAt Tryz.f18 [1, 1])]⟩
noncomputable def o38 : Fr :=
  ⟨118, 57, [], .normal, none, .run, (.node (.ptr 1882 0) (.node undefV (.node (nI 0) (.node (.ptr 1882 0) (.node (.ptr 2654 383) (lU (.sl 5728 0 0 384 (.u 5728 0)) 18) (fU 19))
  (.node (.ptr 1882 0) (lU (.ptr 1882 0) 18) (fU 19))) (.node (.ptr 1882 0) (.node (nI 0) (lU (.sl 2654 383 0 1 (.u 2654 383)) 18) (fU 19)) (.node (.ptr 1882 2) (lU (.ptr 1882 1) 18)
  (fU 19)))) (.node (nI 0) (.node (.ptr 1882 0) (.node (.tup [(nU 0), (nI 0)]) (lU (.ptr 1882 0) 18) (lU (.ptr 1882 0) 18)) (.node (.ptr 1882 0) (lU (.ptr 1882 0) 18) (fU 19)))
  (.node (.ptr 1882 1) (.node (.bool false) (lU (.ptr 1882 0) 18) (fU 19)) (.node (nU 0) (lU (nI 0) 18) (fU 19))))) (.node (.bool false) (.node (nU 0) (.node (.ptr 1882 0) (.node (nU
  3064) (lU (.ptr 1882 0) 18) (lU (.ptr 1882 0) 18)) (.node (.ptr 1882 0) (lU (.ptr 1882 1) 18) (fU 19))) (.node (.ptr 1882 0) (.node (nI 0) (lU (.sl 2654 383 1 0 (.u 2654 384)) 18)
  (fU 19)) (.node (.sl 5720 0 0 383 (.u 5720 0)) (lU (.sl 2654 383 1 0 (.u 2654 384)) 18) (fU 19)))) (.node (.tup [(nU 0), (nI 0)]) (.node (.ptr 192 0) (.node (nU 0) (lU (.ptr 1882
  1) 18) (lU (.sl 6880 0 0 3072 (.u 6880 0)) 18)) (.node (.ptr 1882 0) (lU (.ptr 1882 0) 18) (fU 19))) (.node (.sl 2654 383 0 1 (.u 2654 383)) (.node undefV (lU (.ptr 1882 2) 18) (fU
  19)) (.node (.sl 5727 0 0 1 (.k 1)) (lU (.bool false) 18) (fU 19)))))), [.reg (opsAt Tryz.f118 [1, 1, 1, 1, 1, 0]) ((opsAt Tryz.f118 [1, 1, 1, 1, 1, 0]).toList.drop 3), .code
  (codeAt Tryz.f118 [1, 1, 1, 1, 1, 1])]⟩
noncomputable def o39 : Ob :=
  (.cells 5 1 3072 (.node (nB 70) (.node (nB 65) (.node (nB 84) (.node (nB 82) (.node (nB 0) (.node (nB 255) (.node (nB 0) (.node (nB 0) (.node (nB 0) (.node (nB 0) (.node (nB 0) (lA
  (nB 0) 12) (lA (nB 0) 12)) (.node (nB 0) (lA (nB 0) 12) (fA 13))) (.node (nB 0) (.node (nB 0) (lA (nB 0) 12) (fA 13)) (.node (nB 0) (lA (nB 0) 12) (fA 13)))) (.node (nB 0) (.node
  (nB 0) (.node (nB 0) (lA (nB 0) 12) (fA 13)) (.node (nB 0) (lA (nB 0) 12) (fA 13))) (.node (nB 0) (.node (nB 0) (lA (nB 0) 12) (fA 13)) (.node (nB 0) (lA (nB 0) 12) (fA 13)))))
  (.node (nB 0) (.node (nB 0) (.node (nB 0) (.node (nB 0) (lA (nB 0) 12) (fA 13)) (.node (nB 0) (lA (nB 0) 12) (fA 13))) (.node (nB 0) (.node (nB 0) (lA (nB 0) 12) (fA 13)) (.node
  (nB 0) (lA (nB 0) 12) (fA 13)))) (.node (nB 0) (.node (nB 0) (.node (nB 0) (lA (nB 0) 12) (fA 13)) (.node (nB 0) (lA (nB 0) 12) (fA 13))) (.node (nB 0) (.node (nB 0) (lA (nB 0) 12)
  (fA 13)) (.node (nB 0) (lA (nB 0) 12) (fA 13)))))) (.node (nB 0) (.node (nB 0) (.node (nB 0) (.node (nB 0) (.node (nB 0) (lA (nB 0) 12) (fA 13)) (.node (nB 0) (lA (nB 0) 12) (fA
  13))) (.node (nB 0) (.node (nB 0) (lA (nB 0) 12) (fA 13)) (.node (nB 0) (lA (nB 0) 12) (fA 13)))) (.node (nB 0) (.node (nB 0) (.node (nB 0) (lA (nB 0) 12) (fA 13)) (.node (nB 0)
  (lA (nB 0) 12) (fA 13))) (.node (nB 0) (.node (nB 0) (lA (nB 0) 12) (fA 13)) (.node (nB 0) (lA (nB 0) 12) (fA 13))))) (.node (nB 0) (.node (nB 0) (.node (nB 0) (.node (nB 0) (lA
  (nB 0) 12) (fA 13)) (.node (nB 0) (lA (nB 0) 12) (fA 13))) (.node (nB 0) (.node (nB 0) (lA (nB 0) 12) (fA 13)) (.node (nB 0) (lA (nB 0) 12) (fA 13)))) (.node (nB 0) (.node (nB 0)
  (.node (nB 0) (lA (nB 0) 12) (fA 13)) (.node (nB 0) (lA (nB 0) 12) (fA 13))) (.node (nB 0) (.node (nB 0) (lA (nB 0) 12) (fA 13)) (.node (nB 0) (lA (nB 0) 12) (fA 13))))))) (.node
  (nB 0) (.node (nB 0) (.node (nB 0) (.node (nB 0) (.node (nB 0) (.node (nB 0) (lA (nB 0) 12) (fA 13)) (.node (nB 0) (lA (nB 0) 12) (fA 13))) (.node (nB 0) (.node (nB 0) (lA (nB 0)
  12) (fA 13)) (.node (nB 0) (lA (nB 0) 12) (fA 13)))) (.node (nB 0) (.node (nB 0) (.node (nB 0) (lA (nB 0) 12) (fA 13)) (.node (nB 0) (lA (nB 0) 12) (fA 13))) (.node (nB 0) (.node
  (nB 0) (lA (nB 0) 12) (fA 13)) (.node (nB 0) (lA (nB 0) 12) (fA 13))))) (.node (nB 0) (.node (nB 0) (.node (nB 0) (.node (nB 0) (lA (nB 0) 12) (fA 13)) (.node (nB 0) (lA (nB 0) 12)
  (fA 13))) (.node (nB 0) (.node (nB 0) (lA (nB 0) 12) (fA 13)) (.node (nB 0) (lA (nB 0) 12) (fA 13)))) (.node (nB 0) (.node (nB 0) (.node (nB 0) (lA (nB 0) 12) (fA 13)) (.node (nB
  0) (lA (nB 0) 12) (fA 13))) (.node (nB 0) (.node (nB 0) (lA (nB 0) 12) (fA 13)) (.node (nB 0) (lA (nB 0) 12) (fA 13)))))) (.node (nB 0) (.node (nB 0) (.node (nB 0) (.node (nB 0)
  (.node (nB 0) (lA (nB 0) 12) (fA 13)) (.node (nB 0) (lA (nB 0) 12) (fA 13))) (.node (nB 0) (.node (nB 0) (lA (nB 0) 12) (fA 13)) (.node (nB 0) (lA (nB 0) 12) (fA 13)))) (.node (nB
  0) (.node (nB 0) (.node (nB 0) (lA (nB 0) 12) (fA 13)) (.node (nB 0) (lA (nB 0) 12) (fA 13))) (.node (nB 0) (.node (nB 0) (lA (nB 0) 12) (fA 13)) (.node (nB 0) (lA (nB 0) 12) (fA
  13))))) (.node (nB 0) (.node (nB 0) (.node (nB 0) (.node (nB 0) (lA (nB 0) 12) (fA 13)) (.node (nB 0) (lA (nB 0) 12) (fA 13))) (.node (nB 0) (.node (nB 0) (lA (nB 0) 12) (fA 13))
  (.node (nB 0) (lA (nB 0) 12) (fA 13)))) (.node (nB 0) (.node (nB 0) (.node (nB 0) (lA (nB 0) 12) (fA 13)) (.node (nB 0) (lA (nB 0) 12) (fA 13))) (.node (nB 0) (.node (nB 0) (lA (nB
  0) 12) (fA 13)) (.node (nB 0) (lA (nB 0) 12) (fA 13)))))))) (.node (nB 0) (.node (nB 0) (.node (nB 0) (.node (nB 0) (.node (nB 0) (.node (nB 0) (.node (nB 0) (lA (nB 0) 12) (fA
  13)) (.node (nB 0) (lA (nB 0) 12) (fA 13))) (.node (nB 0) (.node (nB 0) (lA (nB 0) 12) (fA 13)) (.node (nB 0) (lA (nB 0) 12) (fA 13)))) (.node (nB 0) (.node (nB 0) (.node (nB 0)
  (lA (nB 0) 12) (fA 13)) (.node (nB 0) (lA (nB 0) 12) (fA 13))) (.node (nB 0) (.node (nB 0) (lA (nB 0) 12) (fA 13)) (.node (nB 0) (lA (nB 0) 12) (fA 13))))) (.node (nB 0) (.node (nB
  0) (.node (nB 0) (.node (nB 76) (lA (nB 0) 12) (fA 13)) (.node (nB 0) (lA (nB 0) 12) (fA 13))) (.node (nB 0) (.node (nB 0) (lA (nB 0) 12) (fA 13)) (.node (nB 0) (lA (nB 0) 12) (fA
  13)))) (.node (nB 0) (.node (nB 0) (.node (nB 0) (lA (nB 0) 12) (fA 13)) (.node (nB 0) (lA (nB 0) 12) (fA 13))) (.node (nB 0) (.node (nB 0) (lA (nB 0) 12) (fA 13)) (.node (nB 0)
  (lA (nB 0) 12) (fA 13)))))) (.node (nB 0) (.node (nB 0) (.node (nB 0) (.node (nB 0) (.node (nB 0) (lA (nB 0) 12) (fA 13)) (.node (nB 0) (lA (nB 0) 12) (fA 13))) (.node (nB 0)
  (.node (nB 0) (lA (nB 0) 12) (fA 13)) (.node (nB 0) (lA (nB 0) 12) (fA 13)))) (.node (nB 0) (.node (nB 0) (.node (nB 0) (lA (nB 0) 12) (fA 13)) (.node (nB 0) (lA (nB 0) 12) (fA
  13))) (.node (nB 0) (.node (nB 0) (lA (nB 0) 12) (fA 13)) (.node (nB 0) (lA (nB 0) 12) (fA 13))))) (.node (nB 0) (.node (nB 0) (.node (nB 0) (.node (nB 0) (lA (nB 0) 12) (fA 13))
  (.node (nB 0) (lA (nB 0) 12) (fA 13))) (.node (nB 0) (.node (nB 0) (lA (nB 0) 12) (fA 13)) (.node (nB 0) (lA (nB 0) 12) (fA 13)))) (.node (nB 0) (.node (nB 0) (.node (nB 0) (lA (nB
  0) 12) (fA 13)) (.node (nB 0) (lA (nB 0) 12) (fA 13))) (.node (nB 0) (.node (nB 0) (lA (nB 0) 12) (fA 13)) (.node (nB 0) (lA (nB 0) 12) (fA 13))))))) (.node (nB 0) (.node (nB 0)
  (.node (nB 0) (.node (nB 0) (.node (nB 0) (.node (nB 0) (lA (nB 0) 12) (fA 13)) (.node (nB 0) (lA (nB 0) 12) (fA 13))) (.node (nB 0) (.node (nB 0) (lA (nB 0) 12) (fA 13)) (.node
  (nB 0) (lA (nB 0) 12) (fA 13)))) (.node (nB 0) (.node (nB 0) (.node (nB 0) (lA (nB 0) 12) (fA 13)) (.node (nB 0) (lA (nB 0) 12) (fA 13))) (.node (nB 0) (.node (nB 0) (lA (nB 0) 12)
  (fA 13)) (.node (nB 0) (lA (nB 0) 12) (fA 13))))) (.node (nB 0) (.node (nB 0) (.node (nB 0) (.node (nB 0) (lA (nB 0) 12) (fA 13)) (.node (nB 0) (lA (nB 0) 12) (fA 13))) (.node (nB
  0) (.node (nB 0) (lA (nB 0) 12) (fA 13)) (.node (nB 0) (lA (nB 0) 12) (fA 13)))) (.node (nB 0) (.node (nB 0) (.node (nB 0) (lA (nB 0) 12) (fA 13)) (.node (nB 0) (lA (nB 0) 12) (fA
  13))) (.node (nB 0) (.node (nB 0) (lA (nB 0) 12) (fA 13)) (.node (nB 0) (lA (nB 0) 12) (fA 13)))))) (.node (nB 0) (.node (nB 0) (.node (nB 0) (.node (nB 0) (.node (nB 0) (lA (nB 0)
  12) (fA 13)) (.node (nB 0) (lA (nB 0) 12) (fA 13))) (.node (nB 0) (.node (nB 0) (lA (nB 0) 12) (fA 13)) (.node (nB 0) (lA (nB 0) 12) (fA 13)))) (.node (nB 0) (.node (nB 0) (.node
  (nB 0) (lA (nB 0) 12) (fA 13)) (.node (nB 0) (lA (nB 0) 12) (fA 13))) (.node (nB 0) (.node (nB 0) (lA (nB 0) 12) (fA 13)) (.node (nB 0) (lA (nB 0) 12) (fA 13))))) (.node (nB 0)
  (.node (nB 0) (.node (nB 0) (.node (nB 0) (lA (nB 0) 12) (fA 13)) (.node (nB 0) (lA (nB 0) 12) (fA 13))) (.node (nB 0) (.node (nB 0) (lA (nB 0) 12) (fA 13)) (.node (nB 0) (lA (nB
  0) 12) (fA 13)))) (.node (nB 0) (.node (nB 0) (.node (nB 0) (lA (nB 0) 12) (fA 13)) (.node (nB 0) (lA (nB 0) 12) (fA 13))) (.node (nB 0) (.node (nB 0) (lA (nB 0) 12) (fA 13))
  (.node (nB 0) (lA (nB 0) 12) (fA 13))))))))) (.node (nB 0) (.node (nB 0) (.node (nB 0) (.node (nB 0) (.node (nB 0) (.node (nB 0) (.node (nB 0) (.node (nB 0) (lA (nB 0) 12) (fA 13))
  (.node (nB 0) (lA (nB 0) 12) (fA 13))) (.node (nB 0) (.node (nB 0) (lA (nB 0) 12) (fA 13)) (.node (nB 0) (lA (nB 0) 12) (fA 13)))) (.node (nB 0) (.node (nB 0) (.node (nB 0) (lA (nB
  0) 12) (fA 13)) (.node (nB 0) (lA (nB 0) 12) (fA 13))) (.node (nB 0) (.node (nB 0) (lA (nB 0) 12) (fA 13)) (.node (nB 0) (lA (nB 0) 12) (fA 13))))) (.node (nB 0) (.node (nB 0)
  (.node (nB 0) (.node (nB 69) (lA (nB 0) 12) (fA 13)) (.node (nB 0) (lA (nB 0) 12) (fA 13))) (.node (nB 0) (.node (nB 0) (lA (nB 0) 12) (fA 13)) (.node (nB 0) (lA (nB 0) 12) (fA
  13)))) (.node (nB 0) (.node (nB 0) (.node (nB 0) (lA (nB 0) 12) (fA 13)) (.node (nB 0) (lA (nB 0) 12) (fA 13))) (.node (nB 0) (.node (nB 0) (lA (nB 0) 12) (fA 13)) (.node (nB 0)
  (lA (nB 0) 12) (fA 13)))))) (.node (nB 0) (.node (nB 0) (.node (nB 0) (.node (nB 0) (.node (nB 0) (lA (nB 0) 12) (fA 13)) (.node (nB 0) (lA (nB 0) 12) (fA 13))) (.node (nB 0)
  (.node (nB 0) (lA (nB 0) 12) (fA 13)) (.node (nB 0) (lA (nB 0) 12) (fA 13)))) (.node (nB 0) (.node (nB 0) (.node (nB 0) (lA (nB 0) 12) (fA 13)) (.node (nB 0) (lA (nB 0) 12) (fA
  13))) (.node (nB 0) (.node (nB 0) (lA (nB 0) 12) (fA 13)) (.node (nB 0) (lA (nB 0) 12) (fA 13))))) (.node (nB 0) (.node (nB 0) (.node (nB 0) (.node (nB 0) (lA (nB 0) 12) (fA 13))
  (.node (nB 0) (lA (nB 0) 12) (fA 13))) (.node (nB 0) (.node (nB 0) (lA (nB 0) 12) (fA 13)) (.node (nB 0) (lA (nB 0) 12) (fA 13)))) (.node (nB 0) (.node (nB 0) (.node (nB 0) (lA (nB
  0) 12) (fA 13)) (.node (nB 0) (lA (nB 0) 12) (fA 13))) (.node (nB 0) (.node (nB 0) (lA (nB 0) 12) (fA 13)) (.node (nB 0) (lA (nB 0) 12) (fA 13))))))) (.node (nB 0) (.node (nB 0)
  (.node (nB 0) (.node (nB 0) (.node (nB 0) (.node (nB 0) (lA (nB 0) 12) (fA 13)) (.node (nB 0) (lA (nB 0) 12) (fA 13))) (.node (nB 0) (.node (nB 0) (lA (nB 0) 12) (fA 13)) (.node
  (nB 0) (lA (nB 0) 12) (fA 13)))) (.node (nB 0) (.node (nB 0) (.node (nB 0) (lA (nB 0) 12) (fA 13)) (.node (nB 0) (lA (nB 0) 12) (fA 13))) (.node (nB 0) (.node (nB 0) (lA (nB 0) 12)
  (fA 13)) (.node (nB 0) (lA (nB 0) 12) (fA 13))))) (.node (nB 0) (.node (nB 0) (.node (nB 0) (.node (nB 0) (lA (nB 0) 12) (fA 13)) (.node (nB 0) (lA (nB 0) 12) (fA 13))) (.node (nB
  0) (.node (nB 0) (lA (nB 0) 12) (fA 13)) (.node (nB 0) (lA (nB 0) 12) (fA 13)))) (.node (nB 0) (.node (nB 0) (.node (nB 0) (lA (nB 0) 12) (fA 13)) (.node (nB 0) (lA (nB 0) 12) (fA
  13))) (.node (nB 0) (.node (nB 0) (lA (nB 0) 12) (fA 13)) (.node (nB 0) (lA (nB 0) 12) (fA 13)))))) (.node (nB 0) (.node (nB 0) (.node (nB 0) (.node (nB 0) (.node (nB 0) (lA (nB 0)
  12) (fA 13)) (.node (nB 0) (lA (nB 0) 12) (fA 13))) (.node (nB 0) (.node (nB 0) (lA (nB 0) 12) (fA 13)) (.node (nB 0) (lA (nB 0) 12) (fA 13)))) (.node (nB 0) (.node (nB 0) (.node
  (nB 0) (lA (nB 0) 12) (fA 13)) (.node (nB 0) (lA (nB 0) 12) (fA 13))) (.node (nB 0) (.node (nB 0) (lA (nB 0) 12) (fA 13)) (.node (nB 0) (lA (nB 0) 12) (fA 13))))) (.node (nB 0)
  (.node (nB 0) (.node (nB 0) (.node (nB 0) (lA (nB 0) 12) (fA 13)) (.node (nB 0) (lA (nB 0) 12) (fA 13))) (.node (nB 0) (.node (nB 0) (lA (nB 0) 12) (fA 13)) (.node (nB 0) (lA (nB
  0) 12) (fA 13)))) (.node (nB 0) (.node (nB 0) (.node (nB 0) (lA (nB 0) 12) (fA 13)) (.node (nB 0) (lA (nB 0) 12) (fA 13))) (.node (nB 0) (.node (nB 0) (lA (nB 0) 12) (fA 13))
  (.node (nB 0) (lA (nB 0) 12) (fA 13)))))))) (.node (nB 255) (.node (nB 0) (.node (nB 0) (.node (nB 0) (.node (nB 0) (.node (nB 0) (.node (nB 0) (lA (nB 0) 12) (fA 13)) (.node (nB
  0) (lA (nB 0) 12) (fA 13))) (.node (nB 0) (.node (nB 0) (lA (nB 0) 12) (fA 13)) (.node (nB 0) (lA (nB 0) 12) (fA 13)))) (.node (nB 0) (.node (nB 0) (.node (nB 0) (lA (nB 0) 12) (fA
  13)) (.node (nB 0) (lA (nB 0) 12) (fA 13))) (.node (nB 0) (.node (nB 0) (lA (nB 0) 12) (fA 13)) (.node (nB 0) (lA (nB 0) 12) (fA 13))))) (.node (nB 0) (.node (nB 0) (.node (nB 0)
  (.node (nB 0) (lA (nB 0) 12) (fA 13)) (.node (nB 0) (lA (nB 0) 12) (fA 13))) (.node (nB 0) (.node (nB 0) (lA (nB 0) 12) (fA 13)) (.node (nB 0) (lA (nB 0) 12) (fA 13)))) (.node (nB
  0) (.node (nB 0) (.node (nB 0) (lA (nB 0) 12) (fA 13)) (.node (nB 0) (lA (nB 0) 12) (fA 13))) (.node (nB 0) (.node (nB 0) (lA (nB 0) 12) (fA 13)) (.node (nB 0) (lA (nB 0) 12) (fA
  13)))))) (.node (nB 0) (.node (nB 0) (.node (nB 0) (.node (nB 0) (.node (nB 0) (lA (nB 0) 12) (fA 13)) (.node (nB 0) (lA (nB 0) 12) (fA 13))) (.node (nB 0) (.node (nB 0) (lA (nB 0)
  12) (fA 13)) (.node (nB 0) (lA (nB 0) 12) (fA 13)))) (.node (nB 0) (.node (nB 0) (.node (nB 0) (lA (nB 0) 12) (fA 13)) (.node (nB 0) (lA (nB 0) 12) (fA 13))) (.node (nB 0) (.node
  (nB 0) (lA (nB 0) 12) (fA 13)) (.node (nB 0) (lA (nB 0) 12) (fA 13))))) (.node (nB 0) (.node (nB 0) (.node (nB 0) (.node (nB 0) (lA (nB 0) 12) (fA 13)) (.node (nB 0) (lA (nB 0) 12)
  (fA 13))) (.node (nB 0) (.node (nB 0) (lA (nB 0) 12) (fA 13)) (.node (nB 0) (lA (nB 0) 12) (fA 13)))) (.node (nB 0) (.node (nB 0) (.node (nB 0) (lA (nB 0) 12) (fA 13)) (.node (nB
  0) (lA (nB 0) 12) (fA 13))) (.node (nB 0) (.node (nB 0) (lA (nB 0) 12) (fA 13)) (.node (nB 0) (lA (nB 0) 12) (fA 13))))))) (.node (nB 0) (.node (nB 0) (.node (nB 0) (.node (nB 0)
  (.node (nB 0) (.node (nB 0) (lA (nB 0) 12) (fA 13)) (.node (nB 0) (lA (nB 0) 12) (fA 13))) (.node (nB 0) (.node (nB 0) (lA (nB 0) 12) (fA 13)) (.node (nB 0) (lA (nB 0) 12) (fA
  13)))) (.node (nB 0) (.node (nB 0) (.node (nB 0) (lA (nB 0) 12) (fA 13)) (.node (nB 0) (lA (nB 0) 12) (fA 13))) (.node (nB 0) (.node (nB 0) (lA (nB 0) 12) (fA 13)) (.node (nB 0)
  (lA (nB 0) 12) (fA 13))))) (.node (nB 0) (.node (nB 0) (.node (nB 0) (.node (nB 0) (lA (nB 0) 12) (fA 13)) (.node (nB 0) (lA (nB 0) 12) (fA 13))) (.node (nB 0) (.node (nB 0) (lA
  (nB 0) 12) (fA 13)) (.node (nB 0) (lA (nB 0) 12) (fA 13)))) (.node (nB 0) (.node (nB 0) (.node (nB 0) (lA (nB 0) 12) (fA 13)) (.node (nB 0) (lA (nB 0) 12) (fA 13))) (.node (nB 0)
  (.node (nB 0) (lA (nB 0) 12) (fA 13)) (.node (nB 0) (lA (nB 0) 12) (fA 13)))))) (.node (nB 0) (.node (nB 0) (.node (nB 0) (.node (nB 0) (.node (nB 0) (lA (nB 0) 12) (fA 13)) (.node
  (nB 0) (lA (nB 0) 12) (fA 13))) (.node (nB 0) (.node (nB 0) (lA (nB 0) 12) (fA 13)) (.node (nB 0) (lA (nB 0) 12) (fA 13)))) (.node (nB 0) (.node (nB 0) (.node (nB 0) (lA (nB 0) 12)
  (fA 13)) (.node (nB 0) (lA (nB 0) 12) (fA 13))) (.node (nB 0) (.node (nB 0) (lA (nB 0) 12) (fA 13)) (.node (nB 0) (lA (nB 0) 12) (fA 13))))) (.node (nB 0) (.node (nB 0) (.node (nB
  0) (.node (nB 0) (lA (nB 0) 12) (fA 13)) (.node (nB 0) (lA (nB 0) 12) (fA 13))) (.node (nB 0) (.node (nB 0) (lA (nB 0) 12) (fA 13)) (.node (nB 0) (lA (nB 0) 12) (fA 13)))) (.node
  (nB 0) (.node (nB 0) (.node (nB 0) (lA (nB 0) 12) (fA 13)) (.node (nB 0) (lA (nB 0) 12) (fA 13))) (.node (nB 0) (.node (nB 0) (lA (nB 0) 12) (fA 13)) (.node (nB 0) (lA (nB 0) 12)
  (fA 13)))))))))) (.node (nB 65) (.node (nB 12) (.node (nB 4) (.node (nB 0) (.node (nB 0) (.node (nB 0) (.node (nB 0) (.node (nB 0) (.node (nB 0) (lA (nB 0) 12) (fA 13)) (.node (nB
  0) (lA (nB 0) 12) (fA 13))) (.node (nB 0) (.node (nB 0) (lA (nB 0) 12) (fA 13)) (.node (nB 0) (lA (nB 0) 12) (fA 13)))) (.node (nB 0) (.node (nB 0) (.node (nB 0) (lA (nB 0) 12) (fA
  13)) (.node (nB 0) (lA (nB 0) 12) (fA 13))) (.node (nB 0) (.node (nB 0) (lA (nB 0) 12) (fA 13)) (.node (nB 0) (lA (nB 0) 12) (fA 13))))) (.node (nB 0) (.node (nB 0) (.node (nB 0)
  (.node (nB 0) (lA (nB 0) 12) (fA 13)) (.node (nB 0) (lA (nB 0) 12) (fA 13))) (.node (nB 0) (.node (nB 0) (lA (nB 0) 12) (fA 13)) (.node (nB 0) (lA (nB 0) 12) (fA 13)))) (.node (nB
  0) (.node (nB 0) (.node (nB 0) (lA (nB 0) 12) (fA 13)) (.node (nB 0) (lA (nB 0) 12) (fA 13))) (.node (nB 0) (.node (nB 0) (lA (nB 0) 12) (fA 13)) (.node (nB 0) (lA (nB 0) 12) (fA
  13)))))) (.node (nB 0) (.node (nB 0) (.node (nB 0) (.node (nB 0) (.node (nB 0) (lA (nB 0) 12) (fA 13)) (.node (nB 0) (lA (nB 0) 12) (fA 13))) (.node (nB 0) (.node (nB 0) (lA (nB 0)
  12) (fA 13)) (.node (nB 0) (lA (nB 0) 12) (fA 13)))) (.node (nB 0) (.node (nB 0) (.node (nB 0) (lA (nB 0) 12) (fA 13)) (.node (nB 0) (lA (nB 0) 12) (fA 13))) (.node (nB 0) (.node
  (nB 0) (lA (nB 0) 12) (fA 13)) (.node (nB 0) (lA (nB 0) 12) (fA 13))))) (.node (nB 0) (.node (nB 0) (.node (nB 0) (.node (nB 4) (lA (nB 0) 12) (fA 13)) (.node (nB 0) (lA (nB 0) 12)
  (fA 13))) (.node (nB 0) (.node (nB 0) (lA (nB 0) 12) (fA 13)) (.node (nB 0) (lA (nB 0) 12) (fA 13)))) (.node (nB 0) (.node (nB 0) (.node (nB 0) (lA (nB 0) 12) (fA 13)) (.node (nB
  0) (lA (nB 0) 12) (fA 13))) (.node (nB 0) (.node (nB 0) (lA (nB 0) 12) (fA 13)) (.node (nB 0) (lA (nB 0) 12) (fA 13))))))) (.node (nB 0) (.node (nB 0) (.node (nB 0) (.node (nB 0)
  (.node (nB 0) (.node (nB 0) (lA (nB 0) 12) (fA 13)) (.node (nB 0) (lA (nB 0) 12) (fA 13))) (.node (nB 0) (.node (nB 0) (lA (nB 0) 12) (fA 13)) (.node (nB 0) (lA (nB 0) 12) (fA
  13)))) (.node (nB 0) (.node (nB 0) (.node (nB 0) (lA (nB 0) 12) (fA 13)) (.node (nB 0) (lA (nB 0) 12) (fA 13))) (.node (nB 0) (.node (nB 0) (lA (nB 0) 12) (fA 13)) (.node (nB 0)
  (lA (nB 0) 12) (fA 13))))) (.node (nB 0) (.node (nB 0) (.node (nB 0) (.node (nB 0) (lA (nB 0) 12) (fA 13)) (.node (nB 0) (lA (nB 0) 12) (fA 13))) (.node (nB 0) (.node (nB 0) (lA
  (nB 0) 12) (fA 13)) (.node (nB 0) (lA (nB 0) 12) (fA 13)))) (.node (nB 0) (.node (nB 0) (.node (nB 0) (lA (nB 0) 12) (fA 13)) (.node (nB 0) (lA (nB 0) 12) (fA 13))) (.node (nB 0)
  (.node (nB 0) (lA (nB 0) 12) (fA 13)) (.node (nB 0) (lA (nB 0) 12) (fA 13)))))) (.node (nB 0) (.node (nB 0) (.node (nB 0) (.node (nB 0) (.node (nB 0) (lA (nB 0) 12) (fA 13)) (.node
  (nB 0) (lA (nB 0) 12) (fA 13))) (.node (nB 0) (.node (nB 0) (lA (nB 0) 12) (fA 13)) (.node (nB 0) (lA (nB 0) 12) (fA 13)))) (.node (nB 0) (.node (nB 0) (.node (nB 0) (lA (nB 0) 12)
  (fA 13)) (.node (nB 0) (lA (nB 0) 12) (fA 13))) (.node (nB 0) (.node (nB 0) (lA (nB 0) 12) (fA 13)) (.node (nB 0) (lA (nB 0) 12) (fA 13))))) (.node (nB 0) (.node (nB 0) (.node (nB
  0) (.node (nB 0) (lA (nB 0) 12) (fA 13)) (.node (nB 0) (lA (nB 0) 12) (fA 13))) (.node (nB 0) (.node (nB 0) (lA (nB 0) 12) (fA 13)) (.node (nB 0) (lA (nB 0) 12) (fA 13)))) (.node
  (nB 0) (.node (nB 0) (.node (nB 0) (lA (nB 0) 12) (fA 13)) (.node (nB 0) (lA (nB 0) 12) (fA 13))) (.node (nB 0) (.node (nB 0) (lA (nB 0) 12) (fA 13)) (.node (nB 0) (lA (nB 0) 12)
  (fA 13)))))))) (.node (nB 243) (.node (nB 0) (.node (nB 0) (.node (nB 0) (.node (nB 0) (.node (nB 0) (.node (nB 0) (lA (nB 0) 12) (fA 13)) (.node (nB 0) (lA (nB 0) 12) (fA 13)))
  (.node (nB 0) (.node (nB 0) (lA (nB 0) 12) (fA 13)) (.node (nB 0) (lA (nB 0) 12) (fA 13)))) (.node (nB 0) (.node (nB 0) (.node (nB 0) (lA (nB 0) 12) (fA 13)) (.node (nB 0) (lA (nB
  0) 12) (fA 13))) (.node (nB 0) (.node (nB 0) (lA (nB 0) 12) (fA 13)) (.node (nB 0) (lA (nB 0) 12) (fA 13))))) (.node (nB 0) (.node (nB 0) (.node (nB 0) (.node (nB 0) (lA (nB 0) 12)
  (fA 13)) (.node (nB 0) (lA (nB 0) 12) (fA 13))) (.node (nB 0) (.node (nB 0) (lA (nB 0) 12) (fA 13)) (.node (nB 0) (lA (nB 0) 12) (fA 13)))) (.node (nB 0) (.node (nB 0) (.node (nB
  0) (lA (nB 0) 12) (fA 13)) (.node (nB 0) (lA (nB 0) 12) (fA 13))) (.node (nB 0) (.node (nB 0) (lA (nB 0) 12) (fA 13)) (.node (nB 0) (lA (nB 0) 12) (fA 13)))))) (.node (nB 0) (.node
  (nB 0) (.node (nB 0) (.node (nB 0) (.node (nB 0) (lA (nB 0) 12) (fA 13)) (.node (nB 0) (lA (nB 0) 12) (fA 13))) (.node (nB 0) (.node (nB 0) (lA (nB 0) 12) (fA 13)) (.node (nB 0)
  (lA (nB 0) 12) (fA 13)))) (.node (nB 0) (.node (nB 0) (.node (nB 0) (lA (nB 0) 12) (fA 13)) (.node (nB 0) (lA (nB 0) 12) (fA 13))) (.node (nB 0) (.node (nB 0) (lA (nB 0) 12) (fA
  13)) (.node (nB 0) (lA (nB 0) 12) (fA 13))))) (.node (nB 0) (.node (nB 0) (.node (nB 0) (.node (nB 0) (lA (nB 0) 12) (fA 13)) (.node (nB 0) (lA (nB 0) 12) (fA 13))) (.node (nB 0)
  (.node (nB 0) (lA (nB 0) 12) (fA 13)) (.node (nB 0) (lA (nB 0) 12) (fA 13)))) (.node (nB 0) (.node (nB 0) (.node (nB 0) (lA (nB 0) 12) (fA 13)) (.node (nB 0) (lA (nB 0) 12) (fA
  13))) (.node (nB 0) (.node (nB 0) (lA (nB 0) 12) (fA 13)) (.node (nB 0) (lA (nB 0) 12) (fA 13))))))) (.node (nB 0) (.node (nB 0) (.node (nB 0) (.node (nB 0) (.node (nB 0) (.node
  (nB 0) (lA (nB 0) 12) (fA 13)) (.node (nB 0) (lA (nB 0) 12) (fA 13))) (.node (nB 0) (.node (nB 0) (lA (nB 0) 12) (fA 13)) (.node (nB 0) (lA (nB 0) 12) (fA 13)))) (.node (nB 0)
  (.node (nB 0) (.node (nB 0) (lA (nB 0) 12) (fA 13)) (.node (nB 0) (lA (nB 0) 12) (fA 13))) (.node (nB 0) (.node (nB 0) (lA (nB 0) 12) (fA 13)) (.node (nB 0) (lA (nB 0) 12) (fA
  13))))) (.node (nB 0) (.node (nB 0) (.node (nB 0) (.node (nB 0) (lA (nB 0) 12) (fA 13)) (.node (nB 0) (lA (nB 0) 12) (fA 13))) (.node (nB 0) (.node (nB 0) (lA (nB 0) 12) (fA 13))
  (.node (nB 0) (lA (nB 0) 12) (fA 13)))) (.node (nB 0) (.node (nB 0) (.node (nB 0) (lA (nB 0) 12) (fA 13)) (.node (nB 0) (lA (nB 0) 12) (fA 13))) (.node (nB 0) (.node (nB 0) (lA (nB
  0) 12) (fA 13)) (.node (nB 0) (lA (nB 0) 12) (fA 13)))))) (.node (nB 0) (.node (nB 0) (.node (nB 0) (.node (nB 0) (.node (nB 0) (lA (nB 0) 12) (fA 13)) (.node (nB 0) (lA (nB 0) 12)
  (fA 13))) (.node (nB 0) (.node (nB 0) (lA (nB 0) 12) (fA 13)) (.node (nB 0) (lA (nB 0) 12) (fA 13)))) (.node (nB 0) (.node (nB 0) (.node (nB 0) (lA (nB 0) 12) (fA 13)) (.node (nB
  0) (lA (nB 0) 12) (fA 13))) (.node (nB 0) (.node (nB 0) (lA (nB 0) 12) (fA 13)) (.node (nB 0) (lA (nB 0) 12) (fA 13))))) (.node (nB 0) (.node (nB 0) (.node (nB 0) (.node (nB 0) (lA
  (nB 0) 12) (fA 13)) (.node (nB 0) (lA (nB 0) 12) (fA 13))) (.node (nB 0) (.node (nB 0) (lA (nB 0) 12) (fA 13)) (.node (nB 0) (lA (nB 0) 12) (fA 13)))) (.node (nB 0) (.node (nB 0)
  (.node (nB 0) (lA (nB 0) 12) (fA 13)) (.node (nB 0) (lA (nB 0) 12) (fA 13))) (.node (nB 0) (.node (nB 0) (lA (nB 0) 12) (fA 13)) (.node (nB 0) (lA (nB 0) 12) (fA 13))))))))) (.node
  (nB 0) (.node (nB 0) (.node (nB 0) (.node (nB 0) (.node (nB 0) (.node (nB 0) (.node (nB 0) (.node (nB 0) (lA (nB 0) 12) (fA 13)) (.node (nB 0) (lA (nB 0) 12) (fA 13))) (.node (nB
  0) (.node (nB 0) (lA (nB 0) 12) (fA 13)) (.node (nB 0) (lA (nB 0) 12) (fA 13)))) (.node (nB 0) (.node (nB 0) (.node (nB 0) (lA (nB 0) 12) (fA 13)) (.node (nB 0) (lA (nB 0) 12) (fA
  13))) (.node (nB 0) (.node (nB 0) (lA (nB 0) 12) (fA 13)) (.node (nB 0) (lA (nB 0) 12) (fA 13))))) (.node (nB 0) (.node (nB 0) (.node (nB 0) (.node (nB 86) (lA (nB 0) 12) (fA 13))
  (.node (nB 0) (lA (nB 0) 12) (fA 13))) (.node (nB 0) (.node (nB 0) (lA (nB 0) 12) (fA 13)) (.node (nB 0) (lA (nB 0) 12) (fA 13)))) (.node (nB 0) (.node (nB 0) (.node (nB 0) (lA (nB
  0) 12) (fA 13)) (.node (nB 0) (lA (nB 0) 12) (fA 13))) (.node (nB 0) (.node (nB 0) (lA (nB 0) 12) (fA 13)) (.node (nB 0) (lA (nB 0) 12) (fA 13)))))) (.node (nB 0) (.node (nB 0)
  (.node (nB 0) (.node (nB 0) (.node (nB 0) (lA (nB 0) 12) (fA 13)) (.node (nB 0) (lA (nB 0) 12) (fA 13))) (.node (nB 0) (.node (nB 0) (lA (nB 0) 12) (fA 13)) (.node (nB 0) (lA (nB
  0) 12) (fA 13)))) (.node (nB 0) (.node (nB 0) (.node (nB 0) (lA (nB 0) 12) (fA 13)) (.node (nB 0) (lA (nB 0) 12) (fA 13))) (.node (nB 0) (.node (nB 0) (lA (nB 0) 12) (fA 13))
  (.node (nB 0) (lA (nB 0) 12) (fA 13))))) (.node (nB 0) (.node (nB 0) (.node (nB 0) (.node (nB 0) (lA (nB 0) 12) (fA 13)) (.node (nB 0) (lA (nB 0) 12) (fA 13))) (.node (nB 0) (.node
  (nB 0) (lA (nB 0) 12) (fA 13)) (.node (nB 0) (lA (nB 0) 12) (fA 13)))) (.node (nB 0) (.node (nB 0) (.node (nB 0) (lA (nB 0) 12) (fA 13)) (.node (nB 0) (lA (nB 0) 12) (fA 13)))
  (.node (nB 0) (.node (nB 0) (lA (nB 0) 12) (fA 13)) (.node (nB 0) (lA (nB 0) 12) (fA 13))))))) (.node (nB 0) (.node (nB 0) (.node (nB 0) (.node (nB 0) (.node (nB 0) (.node (nB 0)
  (lA (nB 0) 12) (fA 13)) (.node (nB 0) (lA (nB 0) 12) (fA 13))) (.node (nB 0) (.node (nB 0) (lA (nB 0) 12) (fA 13)) (.node (nB 0) (lA (nB 0) 12) (fA 13)))) (.node (nB 0) (.node (nB
  0) (.node (nB 0) (lA (nB 0) 12) (fA 13)) (.node (nB 0) (lA (nB 0) 12) (fA 13))) (.node (nB 0) (.node (nB 0) (lA (nB 0) 12) (fA 13)) (.node (nB 0) (lA (nB 0) 12) (fA 13))))) (.node
  (nB 0) (.node (nB 0) (.node (nB 0) (.node (nB 0) (lA (nB 0) 12) (fA 13)) (.node (nB 0) (lA (nB 0) 12) (fA 13))) (.node (nB 0) (.node (nB 0) (lA (nB 0) 12) (fA 13)) (.node (nB 0)
  (lA (nB 0) 12) (fA 13)))) (.node (nB 0) (.node (nB 0) (.node (nB 0) (lA (nB 0) 12) (fA 13)) (.node (nB 0) (lA (nB 0) 12) (fA 13))) (.node (nB 0) (.node (nB 0) (lA (nB 0) 12) (fA
  13)) (.node (nB 0) (lA (nB 0) 12) (fA 13)))))) (.node (nB 0) (.node (nB 0) (.node (nB 0) (.node (nB 0) (.node (nB 0) (lA (nB 0) 12) (fA 13)) (.node (nB 0) (lA (nB 0) 12) (fA 13)))
  (.node (nB 0) (.node (nB 0) (lA (nB 0) 12) (fA 13)) (.node (nB 0) (lA (nB 0) 12) (fA 13)))) (.node (nB 0) (.node (nB 0) (.node (nB 0) (lA (nB 0) 12) (fA 13)) (.node (nB 0) (lA (nB
  0) 12) (fA 13))) (.node (nB 0) (.node (nB 0) (lA (nB 0) 12) (fA 13)) (.node (nB 0) (lA (nB 0) 12) (fA 13))))) (.node (nB 0) (.node (nB 0) (.node (nB 0) (.node (nB 0) (lA (nB 0) 12)
  (fA 13)) (.node (nB 0) (lA (nB 0) 12) (fA 13))) (.node (nB 0) (.node (nB 0) (lA (nB 0) 12) (fA 13)) (.node (nB 0) (lA (nB 0) 12) (fA 13)))) (.node (nB 0) (.node (nB 0) (.node (nB
  0) (lA (nB 0) 12) (fA 13)) (.node (nB 0) (lA (nB 0) 12) (fA 13))) (.node (nB 0) (.node (nB 0) (lA (nB 0) 12) (fA 13)) (.node (nB 0) (lA (nB 0) 12) (fA 13)))))))) (.node (nB 255)
  (.node (nB 0) (.node (nB 0) (.node (nB 0) (.node (nB 0) (.node (nB 0) (.node (nB 0) (lA (nB 0) 12) (fA 13)) (.node (nB 0) (lA (nB 0) 12) (fA 13))) (.node (nB 0) (.node (nB 0) (lA
  (nB 0) 12) (fA 13)) (.node (nB 0) (lA (nB 0) 12) (fA 13)))) (.node (nB 0) (.node (nB 0) (.node (nB 0) (lA (nB 0) 12) (fA 13)) (.node (nB 0) (lA (nB 0) 12) (fA 13))) (.node (nB 0)
  (.node (nB 0) (lA (nB 0) 12) (fA 13)) (.node (nB 0) (lA (nB 0) 12) (fA 13))))) (.node (nB 0) (.node (nB 0) (.node (nB 0) (.node (nB 0) (lA (nB 0) 12) (fA 13)) (.node (nB 0) (lA (nB
  0) 12) (fA 13))) (.node (nB 0) (.node (nB 0) (lA (nB 0) 12) (fA 13)) (.node (nB 0) (lA (nB 0) 12) (fA 13)))) (.node (nB 0) (.node (nB 0) (.node (nB 0) (lA (nB 0) 12) (fA 13))
  (.node (nB 0) (lA (nB 0) 12) (fA 13))) (.node (nB 0) (.node (nB 0) (lA (nB 0) 12) (fA 13)) (.node (nB 0) (lA (nB 0) 12) (fA 13)))))) (.node (nB 0) (.node (nB 0) (.node (nB 0)
  (.node (nB 0) (.node (nB 0) (lA (nB 0) 12) (fA 13)) (.node (nB 0) (lA (nB 0) 12) (fA 13))) (.node (nB 0) (.node (nB 0) (lA (nB 0) 12) (fA 13)) (.node (nB 0) (lA (nB 0) 12) (fA
  13)))) (.node (nB 0) (.node (nB 0) (.node (nB 0) (lA (nB 0) 12) (fA 13)) (.node (nB 0) (lA (nB 0) 12) (fA 13))) (.node (nB 0) (.node (nB 0) (lA (nB 0) 12) (fA 13)) (.node (nB 0)
  (lA (nB 0) 12) (fA 13))))) (.node (nB 0) (.node (nB 0) (.node (nB 0) (.node (nB 0) (lA (nB 0) 12) (fA 13)) (.node (nB 0) (lA (nB 0) 12) (fA 13))) (.node (nB 0) (.node (nB 0) (lA
  (nB 0) 12) (fA 13)) (.node (nB 0) (lA (nB 0) 12) (fA 13)))) (.node (nB 0) (.node (nB 0) (.node (nB 0) (lA (nB 0) 12) (fA 13)) (.node (nB 0) (lA (nB 0) 12) (fA 13))) (.node (nB 0)
  (.node (nB 0) (lA (nB 0) 12) (fA 13)) (.node (nB 0) (lA (nB 0) 12) (fA 13))))))) (.node (nB 0) (.node (nB 0) (.node (nB 0) (.node (nB 0) (.node (nB 0) (.node (nB 0) (lA (nB 0) 12)
  (fA 13)) (.node (nB 0) (lA (nB 0) 12) (fA 13))) (.node (nB 0) (.node (nB 0) (lA (nB 0) 12) (fA 13)) (.node (nB 0) (lA (nB 0) 12) (fA 13)))) (.node (nB 0) (.node (nB 0) (.node (nB
  0) (lA (nB 0) 12) (fA 13)) (.node (nB 0) (lA (nB 0) 12) (fA 13))) (.node (nB 0) (.node (nB 0) (lA (nB 0) 12) (fA 13)) (.node (nB 0) (lA (nB 0) 12) (fA 13))))) (.node (nB 0) (.node
  (nB 0) (.node (nB 0) (.node (nB 0) (lA (nB 0) 12) (fA 13)) (.node (nB 0) (lA (nB 0) 12) (fA 13))) (.node (nB 0) (.node (nB 0) (lA (nB 0) 12) (fA 13)) (.node (nB 0) (lA (nB 0) 12)
  (fA 13)))) (.node (nB 0) (.node (nB 0) (.node (nB 0) (lA (nB 0) 12) (fA 13)) (.node (nB 0) (lA (nB 0) 12) (fA 13))) (.node (nB 0) (.node (nB 0) (lA (nB 0) 12) (fA 13)) (.node (nB
  0) (lA (nB 0) 12) (fA 13)))))) (.node (nB 0) (.node (nB 0) (.node (nB 0) (.node (nB 0) (.node (nB 0) (lA (nB 0) 12) (fA 13)) (.node (nB 0) (lA (nB 0) 12) (fA 13))) (.node (nB 0)
  (.node (nB 0) (lA (nB 0) 12) (fA 13)) (.node (nB 0) (lA (nB 0) 12) (fA 13)))) (.node (nB 0) (.node (nB 0) (.node (nB 0) (lA (nB 0) 12) (fA 13)) (.node (nB 0) (lA (nB 0) 12) (fA
  13))) (.node (nB 0) (.node (nB 0) (lA (nB 0) 12) (fA 13)) (.node (nB 0) (lA (nB 0) 12) (fA 13))))) (.node (nB 0) (.node (nB 0) (.node (nB 0) (.node (nB 0) (lA (nB 0) 12) (fA 13))
  (.node (nB 0) (lA (nB 0) 12) (fA 13))) (.node (nB 0) (.node (nB 0) (lA (nB 0) 12) (fA 13)) (.node (nB 0) (lA (nB 0) 12) (fA 13)))) (.node (nB 0) (.node (nB 0) (.node (nB 0) (lA (nB
  0) 12) (fA 13)) (.node (nB 0) (lA (nB 0) 12) (fA 13))) (.node (nB 0) (.node (nB 0) (lA (nB 0) 12) (fA 13)) (.node (nB 0) (lA (nB 0) 12) (fA 13))))))))))) (.node (nB 83) (.node (nB
  70) (.node (nB 0) (.node (nB 64) (.node (nB 0) (.node (nB 0) (.node (nB 0) (.node (nB 0) (.node (nB 0) (.node (nB 3) (lA (nB 0) 12) (fA 13)) (.node (nB 0) (lA (nB 0) 12) (fA 13)))
  (.node (nB 0) (.node (nB 0) (lA (nB 0) 12) (fA 13)) (.node (nB 0) (lA (nB 0) 12) (fA 13)))) (.node (nB 0) (.node (nB 0) (.node (nB 0) (lA (nB 0) 12) (fA 13)) (.node (nB 0) (lA (nB
  0) 12) (fA 13))) (.node (nB 0) (.node (nB 0) (lA (nB 0) 12) (fA 13)) (.node (nB 0) (lA (nB 0) 12) (fA 13))))) (.node (nB 0) (.node (nB 0) (.node (nB 0) (.node (nB 0) (lA (nB 0) 12)
  (fA 13)) (.node (nB 0) (lA (nB 0) 12) (fA 13))) (.node (nB 0) (.node (nB 0) (lA (nB 0) 12) (fA 13)) (.node (nB 0) (lA (nB 0) 12) (fA 13)))) (.node (nB 0) (.node (nB 0) (.node (nB
  0) (lA (nB 0) 12) (fA 13)) (.node (nB 0) (lA (nB 0) 12) (fA 13))) (.node (nB 0) (.node (nB 0) (lA (nB 0) 12) (fA 13)) (.node (nB 0) (lA (nB 0) 12) (fA 13)))))) (.node (nB 0) (.node
  (nB 0) (.node (nB 0) (.node (nB 0) (.node (nB 0) (lA (nB 0) 12) (fA 13)) (.node (nB 0) (lA (nB 0) 12) (fA 13))) (.node (nB 0) (.node (nB 0) (lA (nB 0) 12) (fA 13)) (.node (nB 0)
  (lA (nB 0) 12) (fA 13)))) (.node (nB 0) (.node (nB 0) (.node (nB 0) (lA (nB 0) 12) (fA 13)) (.node (nB 0) (lA (nB 0) 12) (fA 13))) (.node (nB 0) (.node (nB 0) (lA (nB 0) 12) (fA
  13)) (.node (nB 0) (lA (nB 0) 12) (fA 13))))) (.node (nB 0) (.node (nB 0) (.node (nB 0) (.node (nB 64) (lA (nB 0) 12) (fA 13)) (.node (nB 0) (lA (nB 0) 12) (fA 13))) (.node (nB 0)
  (.node (nB 0) (lA (nB 0) 12) (fA 13)) (.node (nB 0) (lA (nB 0) 12) (fA 13)))) (.node (nB 0) (.node (nB 0) (.node (nB 0) (lA (nB 0) 12) (fA 13)) (.node (nB 0) (lA (nB 0) 12) (fA
  13))) (.node (nB 0) (.node (nB 0) (lA (nB 0) 12) (fA 13)) (.node (nB 0) (lA (nB 0) 12) (fA 13))))))) (.node (nB 0) (.node (nB 0) (.node (nB 0) (.node (nB 0) (.node (nB 0) (.node
  (nB 0) (lA (nB 0) 12) (fA 13)) (.node (nB 0) (lA (nB 0) 12) (fA 13))) (.node (nB 0) (.node (nB 0) (lA (nB 0) 12) (fA 13)) (.node (nB 0) (lA (nB 0) 12) (fA 13)))) (.node (nB 0)
  (.node (nB 0) (.node (nB 0) (lA (nB 0) 12) (fA 13)) (.node (nB 0) (lA (nB 0) 12) (fA 13))) (.node (nB 0) (.node (nB 0) (lA (nB 0) 12) (fA 13)) (.node (nB 0) (lA (nB 0) 12) (fA
  13))))) (.node (nB 0) (.node (nB 0) (.node (nB 0) (.node (nB 0) (lA (nB 0) 12) (fA 13)) (.node (nB 0) (lA (nB 0) 12) (fA 13))) (.node (nB 0) (.node (nB 0) (lA (nB 0) 12) (fA 13))
  (.node (nB 0) (lA (nB 0) 12) (fA 13)))) (.node (nB 0) (.node (nB 0) (.node (nB 0) (lA (nB 0) 12) (fA 13)) (.node (nB 0) (lA (nB 0) 12) (fA 13))) (.node (nB 0) (.node (nB 0) (lA (nB
  0) 12) (fA 13)) (.node (nB 0) (lA (nB 0) 12) (fA 13)))))) (.node (nB 0) (.node (nB 0) (.node (nB 0) (.node (nB 0) (.node (nB 0) (lA (nB 0) 12) (fA 13)) (.node (nB 0) (lA (nB 0) 12)
  (fA 13))) (.node (nB 0) (.node (nB 0) (lA (nB 0) 12) (fA 13)) (.node (nB 0) (lA (nB 0) 12) (fA 13)))) (.node (nB 0) (.node (nB 0) (.node (nB 0) (lA (nB 0) 12) (fA 13)) (.node (nB
  0) (lA (nB 0) 12) (fA 13))) (.node (nB 0) (.node (nB 0) (lA (nB 0) 12) (fA 13)) (.node (nB 0) (lA (nB 0) 12) (fA 13))))) (.node (nB 0) (.node (nB 0) (.node (nB 0) (.node (nB 0) (lA
  (nB 0) 12) (fA 13)) (.node (nB 0) (lA (nB 0) 12) (fA 13))) (.node (nB 0) (.node (nB 0) (lA (nB 0) 12) (fA 13)) (.node (nB 0) (lA (nB 0) 12) (fA 13)))) (.node (nB 0) (.node (nB 0)
  (.node (nB 0) (lA (nB 0) 12) (fA 13)) (.node (nB 0) (lA (nB 0) 12) (fA 13))) (.node (nB 0) (.node (nB 0) (lA (nB 0) 12) (fA 13)) (.node (nB 0) (lA (nB 0) 12) (fA 13)))))))) (.node
  (nB 255) (.node (nB 0) (.node (nB 0) (.node (nB 0) (.node (nB 0) (.node (nB 0) (.node (nB 1) (lA (nB 0) 12) (fA 13)) (.node (nB 0) (lA (nB 0) 12) (fA 13))) (.node (nB 0) (.node (nB
  0) (lA (nB 0) 12) (fA 13)) (.node (nB 0) (lA (nB 0) 12) (fA 13)))) (.node (nB 0) (.node (nB 0) (.node (nB 0) (lA (nB 0) 12) (fA 13)) (.node (nB 0) (lA (nB 0) 12) (fA 13))) (.node
  (nB 0) (.node (nB 0) (lA (nB 0) 12) (fA 13)) (.node (nB 0) (lA (nB 0) 12) (fA 13))))) (.node (nB 0) (.node (nB 0) (.node (nB 0) (.node (nB 0) (lA (nB 0) 12) (fA 13)) (.node (nB 0)
  (lA (nB 0) 12) (fA 13))) (.node (nB 0) (.node (nB 0) (lA (nB 0) 12) (fA 13)) (.node (nB 0) (lA (nB 0) 12) (fA 13)))) (.node (nB 0) (.node (nB 0) (.node (nB 0) (lA (nB 0) 12) (fA
  13)) (.node (nB 0) (lA (nB 0) 12) (fA 13))) (.node (nB 0) (.node (nB 0) (lA (nB 0) 12) (fA 13)) (.node (nB 0) (lA (nB 0) 12) (fA 13)))))) (.node (nB 0) (.node (nB 0) (.node (nB 0)
  (.node (nB 0) (.node (nB 0) (lA (nB 0) 12) (fA 13)) (.node (nB 0) (lA (nB 0) 12) (fA 13))) (.node (nB 0) (.node (nB 0) (lA (nB 0) 12) (fA 13)) (.node (nB 0) (lA (nB 0) 12) (fA
  13)))) (.node (nB 0) (.node (nB 0) (.node (nB 0) (lA (nB 0) 12) (fA 13)) (.node (nB 0) (lA (nB 0) 12) (fA 13))) (.node (nB 0) (.node (nB 0) (lA (nB 0) 12) (fA 13)) (.node (nB 0)
  (lA (nB 0) 12) (fA 13))))) (.node (nB 0) (.node (nB 0) (.node (nB 0) (.node (nB 0) (lA (nB 0) 12) (fA 13)) (.node (nB 0) (lA (nB 0) 12) (fA 13))) (.node (nB 0) (.node (nB 0) (lA
  (nB 0) 12) (fA 13)) (.node (nB 0) (lA (nB 0) 12) (fA 13)))) (.node (nB 0) (.node (nB 0) (.node (nB 0) (lA (nB 0) 12) (fA 13)) (.node (nB 0) (lA (nB 0) 12) (fA 13))) (.node (nB 0)
  (.node (nB 0) (lA (nB 0) 12) (fA 13)) (.node (nB 0) (lA (nB 0) 12) (fA 13))))))) (.node (nB 0) (.node (nB 0) (.node (nB 0) (.node (nB 0) (.node (nB 0) (.node (nB 0) (lA (nB 0) 12)
  (fA 13)) (.node (nB 0) (lA (nB 0) 12) (fA 13))) (.node (nB 0) (.node (nB 0) (lA (nB 0) 12) (fA 13)) (.node (nB 0) (lA (nB 0) 12) (fA 13)))) (.node (nB 0) (.node (nB 0) (.node (nB
  0) (lA (nB 0) 12) (fA 13)) (.node (nB 0) (lA (nB 0) 12) (fA 13))) (.node (nB 0) (.node (nB 0) (lA (nB 0) 12) (fA 13)) (.node (nB 0) (lA (nB 0) 12) (fA 13))))) (.node (nB 0) (.node
  (nB 0) (.node (nB 0) (.node (nB 0) (lA (nB 0) 12) (fA 13)) (.node (nB 0) (lA (nB 0) 12) (fA 13))) (.node (nB 0) (.node (nB 0) (lA (nB 0) 12) (fA 13)) (.node (nB 0) (lA (nB 0) 12)
  (fA 13)))) (.node (nB 0) (.node (nB 0) (.node (nB 0) (lA (nB 0) 12) (fA 13)) (.node (nB 0) (lA (nB 0) 12) (fA 13))) (.node (nB 0) (.node (nB 0) (lA (nB 0) 12) (fA 13)) (.node (nB
  0) (lA (nB 0) 12) (fA 13)))))) (.node (nB 0) (.node (nB 0) (.node (nB 0) (.node (nB 0) (.node (nB 0) (lA (nB 0) 12) (fA 13)) (.node (nB 0) (lA (nB 0) 12) (fA 13))) (.node (nB 0)
  (.node (nB 0) (lA (nB 0) 12) (fA 13)) (.node (nB 0) (lA (nB 0) 12) (fA 13)))) (.node (nB 0) (.node (nB 0) (.node (nB 0) (lA (nB 0) 12) (fA 13)) (.node (nB 0) (lA (nB 0) 12) (fA
  13))) (.node (nB 0) (.node (nB 0) (lA (nB 0) 12) (fA 13)) (.node (nB 0) (lA (nB 0) 12) (fA 13))))) (.node (nB 0) (.node (nB 0) (.node (nB 0) (.node (nB 0) (lA (nB 0) 12) (fA 13))
  (.node (nB 0) (lA (nB 0) 12) (fA 13))) (.node (nB 0) (.node (nB 0) (lA (nB 0) 12) (fA 13)) (.node (nB 0) (lA (nB 0) 12) (fA 13)))) (.node (nB 0) (.node (nB 0) (.node (nB 0) (lA (nB
  0) 12) (fA 13)) (.node (nB 0) (lA (nB 0) 12) (fA 13))) (.node (nB 0) (.node (nB 0) (lA (nB 0) 12) (fA 13)) (.node (nB 0) (lA (nB 0) 12) (fA 13))))))))) (.node (nB 0) (.node (nB 0)
  (.node (nB 0) (.node (nB 0) (.node (nB 0) (.node (nB 0) (.node (nB 0) (.node (nB 0) (lA (nB 0) 12) (fA 13)) (.node (nB 0) (lA (nB 0) 12) (fA 13))) (.node (nB 0) (.node (nB 0) (lA
  (nB 0) 12) (fA 13)) (.node (nB 0) (lA (nB 0) 12) (fA 13)))) (.node (nB 0) (.node (nB 0) (.node (nB 0) (lA (nB 0) 12) (fA 13)) (.node (nB 0) (lA (nB 0) 12) (fA 13))) (.node (nB 0)
  (.node (nB 0) (lA (nB 0) 12) (fA 13)) (.node (nB 0) (lA (nB 0) 12) (fA 13))))) (.node (nB 0) (.node (nB 0) (.node (nB 0) (.node (nB 69) (lA (nB 0) 12) (fA 13)) (.node (nB 0) (lA
  (nB 0) 12) (fA 13))) (.node (nB 0) (.node (nB 0) (lA (nB 0) 12) (fA 13)) (.node (nB 0) (lA (nB 0) 12) (fA 13)))) (.node (nB 0) (.node (nB 0) (.node (nB 0) (lA (nB 0) 12) (fA 13))
  (.node (nB 0) (lA (nB 0) 12) (fA 13))) (.node (nB 0) (.node (nB 0) (lA (nB 0) 12) (fA 13)) (.node (nB 0) (lA (nB 0) 12) (fA 13)))))) (.node (nB 0) (.node (nB 0) (.node (nB 0)
  (.node (nB 0) (.node (nB 0) (lA (nB 0) 12) (fA 13)) (.node (nB 0) (lA (nB 0) 12) (fA 13))) (.node (nB 0) (.node (nB 0) (lA (nB 0) 12) (fA 13)) (.node (nB 0) (lA (nB 0) 12) (fA
  13)))) (.node (nB 0) (.node (nB 0) (.node (nB 0) (lA (nB 0) 12) (fA 13)) (.node (nB 0) (lA (nB 0) 12) (fA 13))) (.node (nB 0) (.node (nB 0) (lA (nB 0) 12) (fA 13)) (.node (nB 0)
  (lA (nB 0) 12) (fA 13))))) (.node (nB 0) (.node (nB 0) (.node (nB 0) (.node (nB 0) (lA (nB 0) 12) (fA 13)) (.node (nB 0) (lA (nB 0) 12) (fA 13))) (.node (nB 0) (.node (nB 0) (lA
  (nB 0) 12) (fA 13)) (.node (nB 0) (lA (nB 0) 12) (fA 13)))) (.node (nB 0) (.node (nB 0) (.node (nB 0) (lA (nB 0) 12) (fA 13)) (.node (nB 0) (lA (nB 0) 12) (fA 13))) (.node (nB 0)
  (.node (nB 0) (lA (nB 0) 12) (fA 13)) (.node (nB 0) (lA (nB 0) 12) (fA 13))))))) (.node (nB 0) (.node (nB 0) (.node (nB 0) (.node (nB 0) (.node (nB 0) (.node (nB 0) (lA (nB 0) 12)
  (fA 13)) (.node (nB 0) (lA (nB 0) 12) (fA 13))) (.node (nB 0) (.node (nB 0) (lA (nB 0) 12) (fA 13)) (.node (nB 0) (lA (nB 0) 12) (fA 13)))) (.node (nB 0) (.node (nB 0) (.node (nB
  0) (lA (nB 0) 12) (fA 13)) (.node (nB 0) (lA (nB 0) 12) (fA 13))) (.node (nB 0) (.node (nB 0) (lA (nB 0) 12) (fA 13)) (.node (nB 0) (lA (nB 0) 12) (fA 13))))) (.node (nB 0) (.node
  (nB 0) (.node (nB 0) (.node (nB 0) (lA (nB 0) 12) (fA 13)) (.node (nB 0) (lA (nB 0) 12) (fA 13))) (.node (nB 0) (.node (nB 0) (lA (nB 0) 12) (fA 13)) (.node (nB 0) (lA (nB 0) 12)
  (fA 13)))) (.node (nB 0) (.node (nB 0) (.node (nB 0) (lA (nB 0) 12) (fA 13)) (.node (nB 0) (lA (nB 0) 12) (fA 13))) (.node (nB 0) (.node (nB 0) (lA (nB 0) 12) (fA 13)) (.node (nB
  0) (lA (nB 0) 12) (fA 13)))))) (.node (nB 0) (.node (nB 0) (.node (nB 0) (.node (nB 0) (.node (nB 0) (lA (nB 0) 12) (fA 13)) (.node (nB 0) (lA (nB 0) 12) (fA 13))) (.node (nB 0)
  (.node (nB 0) (lA (nB 0) 12) (fA 13)) (.node (nB 0) (lA (nB 0) 12) (fA 13)))) (.node (nB 0) (.node (nB 0) (.node (nB 0) (lA (nB 0) 12) (fA 13)) (.node (nB 0) (lA (nB 0) 12) (fA
  13))) (.node (nB 0) (.node (nB 0) (lA (nB 0) 12) (fA 13)) (.node (nB 0) (lA (nB 0) 12) (fA 13))))) (.node (nB 0) (.node (nB 0) (.node (nB 0) (.node (nB 0) (lA (nB 0) 12) (fA 13))
  (.node (nB 0) (lA (nB 0) 12) (fA 13))) (.node (nB 0) (.node (nB 0) (lA (nB 0) 12) (fA 13)) (.node (nB 0) (lA (nB 0) 12) (fA 13)))) (.node (nB 0) (.node (nB 0) (.node (nB 0) (lA (nB
  0) 12) (fA 13)) (.node (nB 0) (lA (nB 0) 12) (fA 13))) (.node (nB 0) (.node (nB 0) (lA (nB 0) 12) (fA 13)) (.node (nB 0) (lA (nB 0) 12) (fA 13)))))))) (.node (nB 255) (.node (nB 0)
  (.node (nB 0) (.node (nB 0) (.node (nB 0) (.node (nB 0) (.node (nB 0) (lA (nB 0) 12) (fA 13)) (.node (nB 0) (lA (nB 0) 12) (fA 13))) (.node (nB 0) (.node (nB 0) (lA (nB 0) 12) (fA
  13)) (.node (nB 0) (lA (nB 0) 12) (fA 13)))) (.node (nB 0) (.node (nB 0) (.node (nB 0) (lA (nB 0) 12) (fA 13)) (.node (nB 0) (lA (nB 0) 12) (fA 13))) (.node (nB 0) (.node (nB 0)
  (lA (nB 0) 12) (fA 13)) (.node (nB 0) (lA (nB 0) 12) (fA 13))))) (.node (nB 0) (.node (nB 0) (.node (nB 0) (.node (nB 0) (lA (nB 0) 12) (fA 13)) (.node (nB 0) (lA (nB 0) 12) (fA
  13))) (.node (nB 0) (.node (nB 0) (lA (nB 0) 12) (fA 13)) (.node (nB 0) (lA (nB 0) 12) (fA 13)))) (.node (nB 0) (.node (nB 0) (.node (nB 0) (lA (nB 0) 12) (fA 13)) (.node (nB 0)
  (lA (nB 0) 12) (fA 13))) (.node (nB 0) (.node (nB 0) (lA (nB 0) 12) (fA 13)) (.node (nB 0) (lA (nB 0) 12) (fA 13)))))) (.node (nB 0) (.node (nB 0) (.node (nB 0) (.node (nB 0)
  (.node (nB 0) (lA (nB 0) 12) (fA 13)) (.node (nB 0) (lA (nB 0) 12) (fA 13))) (.node (nB 0) (.node (nB 0) (lA (nB 0) 12) (fA 13)) (.node (nB 0) (lA (nB 0) 12) (fA 13)))) (.node (nB
  0) (.node (nB 0) (.node (nB 0) (lA (nB 0) 12) (fA 13)) (.node (nB 0) (lA (nB 0) 12) (fA 13))) (.node (nB 0) (.node (nB 0) (lA (nB 0) 12) (fA 13)) (.node (nB 0) (lA (nB 0) 12) (fA
  13))))) (.node (nB 0) (.node (nB 0) (.node (nB 0) (.node (nB 0) (lA (nB 0) 12) (fA 13)) (.node (nB 0) (lA (nB 0) 12) (fA 13))) (.node (nB 0) (.node (nB 0) (lA (nB 0) 12) (fA 13))
  (.node (nB 0) (lA (nB 0) 12) (fA 13)))) (.node (nB 0) (.node (nB 0) (.node (nB 0) (lA (nB 0) 12) (fA 13)) (.node (nB 0) (lA (nB 0) 12) (fA 13))) (.node (nB 0) (.node (nB 0) (lA (nB
  0) 12) (fA 13)) (.node (nB 0) (lA (nB 0) 12) (fA 13))))))) (.node (nB 0) (.node (nB 0) (.node (nB 0) (.node (nB 0) (.node (nB 0) (.node (nB 0) (lA (nB 0) 12) (fA 13)) (.node (nB 0)
  (lA (nB 0) 12) (fA 13))) (.node (nB 0) (.node (nB 0) (lA (nB 0) 12) (fA 13)) (.node (nB 0) (lA (nB 0) 12) (fA 13)))) (.node (nB 0) (.node (nB 0) (.node (nB 0) (lA (nB 0) 12) (fA
  13)) (.node (nB 0) (lA (nB 0) 12) (fA 13))) (.node (nB 0) (.node (nB 0) (lA (nB 0) 12) (fA 13)) (.node (nB 0) (lA (nB 0) 12) (fA 13))))) (.node (nB 0) (.node (nB 0) (.node (nB 0)
  (.node (nB 0) (lA (nB 0) 12) (fA 13)) (.node (nB 0) (lA (nB 0) 12) (fA 13))) (.node (nB 0) (.node (nB 0) (lA (nB 0) 12) (fA 13)) (.node (nB 0) (lA (nB 0) 12) (fA 13)))) (.node (nB
  0) (.node (nB 0) (.node (nB 0) (lA (nB 0) 12) (fA 13)) (.node (nB 0) (lA (nB 0) 12) (fA 13))) (.node (nB 0) (.node (nB 0) (lA (nB 0) 12) (fA 13)) (.node (nB 0) (lA (nB 0) 12) (fA
  13)))))) (.node (nB 0) (.node (nB 0) (.node (nB 0) (.node (nB 0) (.node (nB 0) (lA (nB 0) 12) (fA 13)) (.node (nB 0) (lA (nB 0) 12) (fA 13))) (.node (nB 0) (.node (nB 0) (lA (nB 0)
  12) (fA 13)) (.node (nB 0) (lA (nB 0) 12) (fA 13)))) (.node (nB 0) (.node (nB 0) (.node (nB 0) (lA (nB 0) 12) (fA 13)) (.node (nB 0) (lA (nB 0) 12) (fA 13))) (.node (nB 0) (.node
  (nB 0) (lA (nB 0) 12) (fA 13)) (.node (nB 0) (lA (nB 0) 12) (fA 13))))) (.node (nB 0) (.node (nB 0) (.node (nB 0) (.node (nB 0) (lA (nB 0) 12) (fA 13)) (.node (nB 0) (lA (nB 0) 12)
  (fA 13))) (.node (nB 0) (.node (nB 0) (lA (nB 0) 12) (fA 13)) (.node (nB 0) (lA (nB 0) 12) (fA 13)))) (.node (nB 0) (.node (nB 0) (.node (nB 0) (lA (nB 0) 12) (fA 13)) (.node (nB
  0) (lA (nB 0) 12) (fA 13))) (.node (nB 0) (.node (nB 0) (lA (nB 0) 12) (fA 13)) (.node (nB 0) (lA (nB 0) 12) (fA 13)))))))))) (.node (nB 73) (.node (nB 0) (.node (nB 0) (.node (nB
  0) (.node (nB 0) (.node (nB 0) (.node (nB 0) (.node (nB 0) (.node (nB 0) (lA (nB 0) 12) (fA 13)) (.node (nB 0) (lA (nB 0) 12) (fA 13))) (.node (nB 0) (.node (nB 0) (lA (nB 0) 12)
  (fA 13)) (.node (nB 0) (lA (nB 0) 12) (fA 13)))) (.node (nB 0) (.node (nB 0) (.node (nB 0) (lA (nB 0) 12) (fA 13)) (.node (nB 0) (lA (nB 0) 12) (fA 13))) (.node (nB 0) (.node (nB
  0) (lA (nB 0) 12) (fA 13)) (.node (nB 0) (lA (nB 0) 12) (fA 13))))) (.node (nB 0) (.node (nB 0) (.node (nB 0) (.node (nB 0) (lA (nB 0) 12) (fA 13)) (.node (nB 0) (lA (nB 0) 12) (fA
  13))) (.node (nB 0) (.node (nB 0) (lA (nB 0) 12) (fA 13)) (.node (nB 0) (lA (nB 0) 12) (fA 13)))) (.node (nB 0) (.node (nB 0) (.node (nB 0) (lA (nB 0) 12) (fA 13)) (.node (nB 0)
  (lA (nB 0) 12) (fA 13))) (.node (nB 0) (.node (nB 0) (lA (nB 0) 12) (fA 13)) (.node (nB 0) (lA (nB 0) 12) (fA 13)))))) (.node (nB 0) (.node (nB 0) (.node (nB 0) (.node (nB 0)
  (.node (nB 0) (lA (nB 0) 12) (fA 13)) (.node (nB 0) (lA (nB 0) 12) (fA 13))) (.node (nB 0) (.node (nB 0) (lA (nB 0) 12) (fA 13)) (.node (nB 0) (lA (nB 0) 12) (fA 13)))) (.node (nB
  0) (.node (nB 0) (.node (nB 0) (lA (nB 0) 12) (fA 13)) (.node (nB 0) (lA (nB 0) 12) (fA 13))) (.node (nB 0) (.node (nB 0) (lA (nB 0) 12) (fA 13)) (.node (nB 0) (lA (nB 0) 12) (fA
  13))))) (.node (nB 0) (.node (nB 0) (.node (nB 0) (.node (nB 0) (lA (nB 0) 12) (fA 13)) (.node (nB 0) (lA (nB 0) 12) (fA 13))) (.node (nB 0) (.node (nB 0) (lA (nB 0) 12) (fA 13))
  (.node (nB 0) (lA (nB 0) 12) (fA 13)))) (.node (nB 0) (.node (nB 0) (.node (nB 0) (lA (nB 0) 12) (fA 13)) (.node (nB 0) (lA (nB 0) 12) (fA 13))) (.node (nB 0) (.node (nB 0) (lA (nB
  0) 12) (fA 13)) (.node (nB 0) (lA (nB 0) 12) (fA 13))))))) (.node (nB 0) (.node (nB 0) (.node (nB 0) (.node (nB 0) (.node (nB 0) (.node (nB 0) (lA (nB 0) 12) (fA 13)) (.node (nB 0)
  (lA (nB 0) 12) (fA 13))) (.node (nB 0) (.node (nB 0) (lA (nB 0) 12) (fA 13)) (.node (nB 0) (lA (nB 0) 12) (fA 13)))) (.node (nB 0) (.node (nB 0) (.node (nB 0) (lA (nB 0) 12) (fA
  13)) (.node (nB 0) (lA (nB 0) 12) (fA 13))) (.node (nB 0) (.node (nB 0) (lA (nB 0) 12) (fA 13)) (.node (nB 0) (lA (nB 0) 12) (fA 13))))) (.node (nB 0) (.node (nB 0) (.node (nB 0)
  (.node (nB 0) (lA (nB 0) 12) (fA 13)) (.node (nB 0) (lA (nB 0) 12) (fA 13))) (.node (nB 0) (.node (nB 0) (lA (nB 0) 12) (fA 13)) (.node (nB 0) (lA (nB 0) 12) (fA 13)))) (.node (nB
  0) (.node (nB 0) (.node (nB 0) (lA (nB 0) 12) (fA 13)) (.node (nB 0) (lA (nB 0) 12) (fA 13))) (.node (nB 0) (.node (nB 0) (lA (nB 0) 12) (fA 13)) (.node (nB 0) (lA (nB 0) 12) (fA
  13)))))) (.node (nB 0) (.node (nB 0) (.node (nB 0) (.node (nB 0) (.node (nB 0) (lA (nB 0) 12) (fA 13)) (.node (nB 0) (lA (nB 0) 12) (fA 13))) (.node (nB 0) (.node (nB 0) (lA (nB 0)
  12) (fA 13)) (.node (nB 0) (lA (nB 0) 12) (fA 13)))) (.node (nB 0) (.node (nB 0) (.node (nB 0) (lA (nB 0) 12) (fA 13)) (.node (nB 0) (lA (nB 0) 12) (fA 13))) (.node (nB 0) (.node
  (nB 0) (lA (nB 0) 12) (fA 13)) (.node (nB 0) (lA (nB 0) 12) (fA 13))))) (.node (nB 0) (.node (nB 0) (.node (nB 0) (.node (nB 0) (lA (nB 0) 12) (fA 13)) (.node (nB 0) (lA (nB 0) 12)
  (fA 13))) (.node (nB 0) (.node (nB 0) (lA (nB 0) 12) (fA 13)) (.node (nB 0) (lA (nB 0) 12) (fA 13)))) (.node (nB 0) (.node (nB 0) (.node (nB 0) (lA (nB 0) 12) (fA 13)) (.node (nB
  0) (lA (nB 0) 12) (fA 13))) (.node (nB 0) (.node (nB 0) (lA (nB 0) 12) (fA 13)) (.node (nB 0) (lA (nB 0) 12) (fA 13)))))))) (.node (nB 255) (.node (nB 0) (.node (nB 0) (.node (nB
  0) (.node (nB 0) (.node (nB 0) (.node (nB 0) (lA (nB 0) 12) (fA 13)) (.node (nB 0) (lA (nB 0) 12) (fA 13))) (.node (nB 0) (.node (nB 0) (lA (nB 0) 12) (fA 13)) (.node (nB 0) (lA
  (nB 0) 12) (fA 13)))) (.node (nB 0) (.node (nB 0) (.node (nB 0) (lA (nB 0) 12) (fA 13)) (.node (nB 0) (lA (nB 0) 12) (fA 13))) (.node (nB 0) (.node (nB 0) (lA (nB 0) 12) (fA 13))
  (.node (nB 0) (lA (nB 0) 12) (fA 13))))) (.node (nB 0) (.node (nB 0) (.node (nB 0) (.node (nB 0) (lA (nB 0) 12) (fA 13)) (.node (nB 0) (lA (nB 0) 12) (fA 13))) (.node (nB 0) (.node
  (nB 0) (lA (nB 0) 12) (fA 13)) (.node (nB 0) (lA (nB 0) 12) (fA 13)))) (.node (nB 0) (.node (nB 0) (.node (nB 0) (lA (nB 0) 12) (fA 13)) (.node (nB 0) (lA (nB 0) 12) (fA 13)))
  (.node (nB 0) (.node (nB 0) (lA (nB 0) 12) (fA 13)) (.node (nB 0) (lA (nB 0) 12) (fA 13)))))) (.node (nB 0) (.node (nB 0) (.node (nB 0) (.node (nB 0) (.node (nB 0) (lA (nB 0) 12)
  (fA 13)) (.node (nB 0) (lA (nB 0) 12) (fA 13))) (.node (nB 0) (.node (nB 0) (lA (nB 0) 12) (fA 13)) (.node (nB 0) (lA (nB 0) 12) (fA 13)))) (.node (nB 0) (.node (nB 0) (.node (nB
  0) (lA (nB 0) 12) (fA 13)) (.node (nB 0) (lA (nB 0) 12) (fA 13))) (.node (nB 0) (.node (nB 0) (lA (nB 0) 12) (fA 13)) (.node (nB 0) (lA (nB 0) 12) (fA 13))))) (.node (nB 0) (.node
  (nB 0) (.node (nB 0) (.node (nB 0) (lA (nB 0) 12) (fA 13)) (.node (nB 0) (lA (nB 0) 12) (fA 13))) (.node (nB 0) (.node (nB 0) (lA (nB 0) 12) (fA 13)) (.node (nB 0) (lA (nB 0) 12)
  (fA 13)))) (.node (nB 0) (.node (nB 0) (.node (nB 0) (lA (nB 0) 12) (fA 13)) (.node (nB 0) (lA (nB 0) 12) (fA 13))) (.node (nB 0) (.node (nB 0) (lA (nB 0) 12) (fA 13)) (.node (nB
  0) (lA (nB 0) 12) (fA 13))))))) (.node (nB 0) (.node (nB 0) (.node (nB 0) (.node (nB 0) (.node (nB 0) (.node (nB 0) (lA (nB 0) 12) (fA 13)) (.node (nB 0) (lA (nB 0) 12) (fA 13)))
  (.node (nB 0) (.node (nB 0) (lA (nB 0) 12) (fA 13)) (.node (nB 0) (lA (nB 0) 12) (fA 13)))) (.node (nB 0) (.node (nB 0) (.node (nB 0) (lA (nB 0) 12) (fA 13)) (.node (nB 0) (lA (nB
  0) 12) (fA 13))) (.node (nB 0) (.node (nB 0) (lA (nB 0) 12) (fA 13)) (.node (nB 0) (lA (nB 0) 12) (fA 13))))) (.node (nB 0) (.node (nB 0) (.node (nB 0) (.node (nB 0) (lA (nB 0) 12)
  (fA 13)) (.node (nB 0) (lA (nB 0) 12) (fA 13))) (.node (nB 0) (.node (nB 0) (lA (nB 0) 12) (fA 13)) (.node (nB 0) (lA (nB 0) 12) (fA 13)))) (.node (nB 0) (.node (nB 0) (.node (nB
  0) (lA (nB 0) 12) (fA 13)) (.node (nB 0) (lA (nB 0) 12) (fA 13))) (.node (nB 0) (.node (nB 0) (lA (nB 0) 12) (fA 13)) (.node (nB 0) (lA (nB 0) 12) (fA 13)))))) (.node (nB 0) (.node
  (nB 0) (.node (nB 0) (.node (nB 0) (.node (nB 0) (lA (nB 0) 12) (fA 13)) (.node (nB 0) (lA (nB 0) 12) (fA 13))) (.node (nB 0) (.node (nB 0) (lA (nB 0) 12) (fA 13)) (.node (nB 0)
  (lA (nB 0) 12) (fA 13)))) (.node (nB 0) (.node (nB 0) (.node (nB 0) (lA (nB 0) 12) (fA 13)) (.node (nB 0) (lA (nB 0) 12) (fA 13))) (.node (nB 0) (.node (nB 0) (lA (nB 0) 12) (fA
  13)) (.node (nB 0) (lA (nB 0) 12) (fA 13))))) (.node (nB 0) (.node (nB 0) (.node (nB 0) (.node (nB 0) (lA (nB 0) 12) (fA 13)) (.node (nB 0) (lA (nB 0) 12) (fA 13))) (.node (nB 0)
  (.node (nB 0) (lA (nB 0) 12) (fA 13)) (.node (nB 0) (lA (nB 0) 12) (fA 13)))) (.node (nB 0) (.node (nB 0) (.node (nB 0) (lA (nB 0) 12) (fA 13)) (.node (nB 0) (lA (nB 0) 12) (fA
  13))) (.node (nB 0) (.node (nB 0) (lA (nB 0) 12) (fA 13)) (.node (nB 0) (lA (nB 0) 12) (fA 13))))))))) (.node (nB 0) (.node (nB 0) (.node (nB 0) (.node (nB 0) (.node (nB 0) (.node
  (nB 0) (.node (nB 0) (.node (nB 0) (lA (nB 0) 12) (fA 13)) (.node (nB 0) (lA (nB 0) 12) (fA 13))) (.node (nB 0) (.node (nB 0) (lA (nB 0) 12) (fA 13)) (.node (nB 0) (lA (nB 0) 12)
  (fA 13)))) (.node (nB 0) (.node (nB 0) (.node (nB 0) (lA (nB 0) 12) (fA 13)) (.node (nB 0) (lA (nB 0) 12) (fA 13))) (.node (nB 0) (.node (nB 0) (lA (nB 0) 12) (fA 13)) (.node (nB
  0) (lA (nB 0) 12) (fA 13))))) (.node (nB 0) (.node (nB 0) (.node (nB 0) (.node (nB 69) (lA (nB 0) 12) (fA 13)) (.node (nB 0) (lA (nB 0) 12) (fA 13))) (.node (nB 0) (.node (nB 0)
  (lA (nB 0) 12) (fA 13)) (.node (nB 0) (lA (nB 0) 12) (fA 13)))) (.node (nB 0) (.node (nB 0) (.node (nB 0) (lA (nB 0) 12) (fA 13)) (.node (nB 0) (lA (nB 0) 12) (fA 13))) (.node (nB
  0) (.node (nB 0) (lA (nB 0) 12) (fA 13)) (.node (nB 0) (lA (nB 0) 12) (fA 13)))))) (.node (nB 0) (.node (nB 0) (.node (nB 0) (.node (nB 0) (.node (nB 0) (lA (nB 0) 12) (fA 13))
  (.node (nB 0) (lA (nB 0) 12) (fA 13))) (.node (nB 0) (.node (nB 0) (lA (nB 0) 12) (fA 13)) (.node (nB 0) (lA (nB 0) 12) (fA 13)))) (.node (nB 0) (.node (nB 0) (.node (nB 0) (lA (nB
  0) 12) (fA 13)) (.node (nB 0) (lA (nB 0) 12) (fA 13))) (.node (nB 0) (.node (nB 0) (lA (nB 0) 12) (fA 13)) (.node (nB 0) (lA (nB 0) 12) (fA 13))))) (.node (nB 0) (.node (nB 0)
  (.node (nB 0) (.node (nB 0) (lA (nB 0) 12) (fA 13)) (.node (nB 0) (lA (nB 0) 12) (fA 13))) (.node (nB 0) (.node (nB 0) (lA (nB 0) 12) (fA 13)) (.node (nB 0) (lA (nB 0) 12) (fA
  13)))) (.node (nB 0) (.node (nB 0) (.node (nB 0) (lA (nB 0) 12) (fA 13)) (.node (nB 0) (lA (nB 0) 12) (fA 13))) (.node (nB 0) (.node (nB 0) (lA (nB 0) 12) (fA 13)) (.node (nB 0)
  (lA (nB 0) 12) (fA 13))))))) (.node (nB 0) (.node (nB 0) (.node (nB 0) (.node (nB 0) (.node (nB 0) (.node (nB 0) (lA (nB 0) 12) (fA 13)) (.node (nB 0) (lA (nB 0) 12) (fA 13)))
  (.node (nB 0) (.node (nB 0) (lA (nB 0) 12) (fA 13)) (.node (nB 0) (lA (nB 0) 12) (fA 13)))) (.node (nB 0) (.node (nB 0) (.node (nB 0) (lA (nB 0) 12) (fA 13)) (.node (nB 0) (lA (nB
  0) 12) (fA 13))) (.node (nB 0) (.node (nB 0) (lA (nB 0) 12) (fA 13)) (.node (nB 0) (lA (nB 0) 12) (fA 13))))) (.node (nB 0) (.node (nB 0) (.node (nB 0) (.node (nB 0) (lA (nB 0) 12)
  (fA 13)) (.node (nB 0) (lA (nB 0) 12) (fA 13))) (.node (nB 0) (.node (nB 0) (lA (nB 0) 12) (fA 13)) (.node (nB 0) (lA (nB 0) 12) (fA 13)))) (.node (nB 0) (.node (nB 0) (.node (nB
  0) (lA (nB 0) 12) (fA 13)) (.node (nB 0) (lA (nB 0) 12) (fA 13))) (.node (nB 0) (.node (nB 0) (lA (nB 0) 12) (fA 13)) (.node (nB 0) (lA (nB 0) 12) (fA 13)))))) (.node (nB 0) (.node
  (nB 0) (.node (nB 0) (.node (nB 0) (.node (nB 0) (lA (nB 0) 12) (fA 13)) (.node (nB 0) (lA (nB 0) 12) (fA 13))) (.node (nB 0) (.node (nB 0) (lA (nB 0) 12) (fA 13)) (.node (nB 0)
  (lA (nB 0) 12) (fA 13)))) (.node (nB 0) (.node (nB 0) (.node (nB 0) (lA (nB 0) 12) (fA 13)) (.node (nB 0) (lA (nB 0) 12) (fA 13))) (.node (nB 0) (.node (nB 0) (lA (nB 0) 12) (fA
  13)) (.node (nB 0) (lA (nB 0) 12) (fA 13))))) (.node (nB 0) (.node (nB 0) (.node (nB 0) (.node (nB 0) (lA (nB 0) 12) (fA 13)) (.node (nB 0) (lA (nB 0) 12) (fA 13))) (.node (nB 0)
  (.node (nB 0) (lA (nB 0) 12) (fA 13)) (.node (nB 0) (lA (nB 0) 12) (fA 13)))) (.node (nB 0) (.node (nB 0) (.node (nB 0) (lA (nB 0) 12) (fA 13)) (.node (nB 0) (lA (nB 0) 12) (fA
  13))) (.node (nB 0) (.node (nB 0) (lA (nB 0) 12) (fA 13)) (.node (nB 0) (lA (nB 0) 12) (fA 13)))))))) (.node (nB 255) (.node (nB 0) (.node (nB 0) (.node (nB 0) (.node (nB 0) (.node
  (nB 0) (.node (nB 0) (lA (nB 0) 12) (fA 13)) (.node (nB 0) (lA (nB 0) 12) (fA 13))) (.node (nB 0) (.node (nB 0) (lA (nB 0) 12) (fA 13)) (.node (nB 0) (lA (nB 0) 12) (fA 13))))
  (.node (nB 0) (.node (nB 0) (.node (nB 0) (lA (nB 0) 12) (fA 13)) (.node (nB 0) (lA (nB 0) 12) (fA 13))) (.node (nB 0) (.node (nB 0) (lA (nB 0) 12) (fA 13)) (.node (nB 0) (lA (nB
  0) 12) (fA 13))))) (.node (nB 0) (.node (nB 0) (.node (nB 0) (.node (nB 0) (lA (nB 0) 12) (fA 13)) (.node (nB 0) (lA (nB 0) 12) (fA 13))) (.node (nB 0) (.node (nB 0) (lA (nB 0) 12)
  (fA 13)) (.node (nB 0) (lA (nB 0) 12) (fA 13)))) (.node (nB 0) (.node (nB 0) (.node (nB 0) (lA (nB 0) 12) (fA 13)) (.node (nB 0) (lA (nB 0) 12) (fA 13))) (.node (nB 0) (.node (nB
  0) (lA (nB 0) 12) (fA 13)) (.node (nB 0) (lA (nB 0) 12) (fA 13)))))) (.node (nB 0) (.node (nB 0) (.node (nB 0) (.node (nB 0) (.node (nB 0) (lA (nB 0) 12) (fA 13)) (.node (nB 0) (lA
  (nB 0) 12) (fA 13))) (.node (nB 0) (.node (nB 0) (lA (nB 0) 12) (fA 13)) (.node (nB 0) (lA (nB 0) 12) (fA 13)))) (.node (nB 0) (.node (nB 0) (.node (nB 0) (lA (nB 0) 12) (fA 13))
  (.node (nB 0) (lA (nB 0) 12) (fA 13))) (.node (nB 0) (.node (nB 0) (lA (nB 0) 12) (fA 13)) (.node (nB 0) (lA (nB 0) 12) (fA 13))))) (.node (nB 0) (.node (nB 0) (.node (nB 0) (.node
  (nB 0) (lA (nB 0) 12) (fA 13)) (.node (nB 0) (lA (nB 0) 12) (fA 13))) (.node (nB 0) (.node (nB 0) (lA (nB 0) 12) (fA 13)) (.node (nB 0) (lA (nB 0) 12) (fA 13)))) (.node (nB 0)
  (.node (nB 0) (.node (nB 0) (lA (nB 0) 12) (fA 13)) (.node (nB 0) (lA (nB 0) 12) (fA 13))) (.node (nB 0) (.node (nB 0) (lA (nB 0) 12) (fA 13)) (.node (nB 0) (lA (nB 0) 12) (fA
  13))))))) (.node (nB 0) (.node (nB 0) (.node (nB 0) (.node (nB 0) (.node (nB 0) (.node (nB 0) (lA (nB 0) 12) (fA 13)) (.node (nB 0) (lA (nB 0) 12) (fA 13))) (.node (nB 0) (.node
  (nB 0) (lA (nB 0) 12) (fA 13)) (.node (nB 0) (lA (nB 0) 12) (fA 13)))) (.node (nB 0) (.node (nB 0) (.node (nB 0) (lA (nB 0) 12) (fA 13)) (.node (nB 0) (lA (nB 0) 12) (fA 13)))
  (.node (nB 0) (.node (nB 0) (lA (nB 0) 12) (fA 13)) (.node (nB 0) (lA (nB 0) 12) (fA 13))))) (.node (nB 0) (.node (nB 0) (.node (nB 0) (.node (nB 0) (lA (nB 0) 12) (fA 13)) (.node
  (nB 0) (lA (nB 0) 12) (fA 13))) (.node (nB 0) (.node (nB 0) (lA (nB 0) 12) (fA 13)) (.node (nB 0) (lA (nB 0) 12) (fA 13)))) (.node (nB 0) (.node (nB 0) (.node (nB 0) (lA (nB 0) 12)
  (fA 13)) (.node (nB 0) (lA (nB 0) 12) (fA 13))) (.node (nB 0) (.node (nB 0) (lA (nB 0) 12) (fA 13)) (.node (nB 0) (lA (nB 0) 12) (fA 13)))))) (.node (nB 0) (.node (nB 0) (.node (nB
  0) (.node (nB 0) (.node (nB 0) (lA (nB 0) 12) (fA 13)) (.node (nB 0) (lA (nB 0) 12) (fA 13))) (.node (nB 0) (.node (nB 0) (lA (nB 0) 12) (fA 13)) (.node (nB 0) (lA (nB 0) 12) (fA
  13)))) (.node (nB 0) (.node (nB 0) (.node (nB 0) (lA (nB 0) 12) (fA 13)) (.node (nB 0) (lA (nB 0) 12) (fA 13))) (.node (nB 0) (.node (nB 0) (lA (nB 0) 12) (fA 13)) (.node (nB 0)
  (lA (nB 0) 12) (fA 13))))) (.node (nB 0) (.node (nB 0) (.node (nB 0) (.node (nB 0) (lA (nB 0) 12) (fA 13)) (.node (nB 0) (lA (nB 0) 12) (fA 13))) (.node (nB 0) (.node (nB 0) (lA
  (nB 0) 12) (fA 13)) (.node (nB 0) (lA (nB 0) 12) (fA 13)))) (.node (nB 0) (.node (nB 0) (.node (nB 0) (lA (nB 0) 12) (fA 13)) (.node (nB 0) (lA (nB 0) 12) (fA 13))) (.node (nB 0)
  (.node (nB 0) (lA (nB 0) 12) (fA 13)) (.node (nB 0) (lA (nB 0) 12) (fA 13)))))))))))) false false)
noncomputable def o36 : Ob :=
  (.loop .ready none 130 (.node (.sl 6880 0 0 3072 (.u 6880 0)) (.node undefV (.node (nI 0) (lU (nI 3072) 20) (lU (.fn (.func 80) [] [(.ptr 6885 0), (.ptr 6886 0)]) 20)) (.node
  undefV (lU (.bool false) 20) (fU 21))) (.node .nilsl (.node (.ptr 6884 0) (lU (nI 0) 20) (fU 21)) (.node (.sl 6880 0 0 3072 (.u 6880 0)) (lU (.sl 6880 0 0 3072 (.u 6880 0)) 20) (fU
  21)))) 19 #[12] (codeAt Tryz.f130 [1, 1, 1, 0, 1, 0, 0]) (codeAt Tryz.f130 [1, 1, 1, 0, 1, 0, 1]) 6887)
/-- where the run stands at the end of part 16 -/
noncomputable def s16 : St :=
  ⟨⟨80, 31, [], .normal, none,
  [o35,
    o37,
    o32,
    o31,
    o34,
    o33,
    o38,
    o26,
    o23,
    o27,
    o30,
    o28,
    o18,
    o16,
    o6]⟩,
  .run,
  (.node
  (.yld 6888) (.node (.ptr 6885 0) (.node undefV (.node (.sl 6880 0 0 3072 (.u 6880 0)) (lU (nI 904) 19) (lU (nI 8) 19)) (.node (nI 8) (lU (.yld 6888) 19) (lU (nI 912) 19))) (.node
  (nI 8) (.node (.bool true) (lU (nI 2168) 19) (lU (nI 904) 19)) (.node (nI 8) (lU (nI 904) 19) (lU (.bool true) 19)))) (.node (.ptr 6886 0) (.node (nI 912) (.node (nI 3072) (lU (.sl
  6880 904 0 2168 (.u 6880 904)) 19) (lU (nI 912) 19)) (.node (nI 912) (lU (.sl 6880 0 0 3072 (.u 6880 0)) 19) (lU (.sl 6880 904 0 8 (.k 8)) 19))) (.node (nI 904) (.node (nI 904) (lU
  (nI 8) 19) (lU (nI 8) 19)) (.node (.sl 6880 0 0 3072 (.u 6880 0)) (lU (nI 904) 19) (lU (.bool false) 19))))),
  ⟨(.node (.cells 31 10 10 (.node .nil (.node (nI 0) (.node (nI 0) (lA
  .nil 20) (fA 21)) (.node (.bool false) (lA .nilfn 20) (fA 21))) (.node (nI 0) (.node .nilsl (lA .nil 20) (fA 21)) (lA .nilsl 21))) true false) (.node .dead (.node o1 (.node (.cells
  5 1 64 (fB 24) true false) (.node .dead (.node .dead (.node .dead (fD 17) (lD (.map [] 0) 16)) (.node .dead (fD 17) (.node .dead (.node .dead (.node .dead (fD 14) (.node .dead (lD
  (.cells 167 1 1 (lA (.ptr 1882 0) 23) true false) 12) (.node .dead (lD (.cells 43 1 1 (lA (nU 0) 23) true false) 11) (fD 12)))) (fD 15)) (fD 16)))) (fD 19)) (.node .dead (.node
  .dead (.node .dead (fD 17) (.node .dead (fD 16) (.node .dead (fD 15) (lD o15 14)))) (.node .dead (fD 17) (.node .dead (fD 16) (.node .dead (.node .dead (fD 14) (.node .dead (.node
  .dead (fD 12) (lD (.defd (some [])) 11)) (fD 13))) (fD 15))))) (fD 19))) (.node .dead (.node .dead (.node .dead (fD 18) (.node (.cells 99 3 3 (.node .nilsl (lA .nilsl 22) (lA
  (.bool false) 22)) false false) (fD 17) (.node .dead (fD 16) (.node .dead (.node .dead (fD 14) (.node .dead (.node .dead (fD 12) (lD (.cells 33 1 1 (lA (nI 0) 23) true false) 11))
  (fD 13))) (fD 15))))) (.node .dead (.node .dead (fD 17) (.node .dead (.node .dead (fD 15) (.node .dead (fD 14) (lD (.cells 49 10 10 (.node (nI 5) (.node (nI 0) (.node (nU 0) (lA
  (nU 0) 20) (fA 21)) (.node (nI 0) (lA .nilsl 20) (fA 21))) (.node (nI 0) (.node (nU 0) (lA (nI 0) 20) (fA 21)) (lA (.str (bs [])) 21))) true false) 13))) (fD 16))) (fD 18))) (.node
  .dead (fD 19) (.node (.cells 5 1 64 (fB 24) true false) (.node .dead (fD 17) (.node .dead (.node .dead (.node .dead (fD 14) (.node .dead (fD 13) (.node .dead (lD o1 11) (fD 12))))
  (fD 15)) (fD 16))) (fD 18))))) (.node .dead (.node .dead (.node .dead (.node (.cells 5 1 64 (fB 24) true false) (fD 18) (.node .dead (fD 17) (.node .dead (.node .dead (.node .dead
  (fD 14) (.node .dead (lD o1 12) (fD 13))) (fD 15)) (.node .dead (.node .dead (fD 14) (.node .dead (.node .dead (fD 12) (lD (.cells 52 1 1 (lA (.sl 6880 0 0 3072 (.u 6880 0)) 23)
  true false) 11)) (fD 13))) (fD 15))))) (.node .dead (.node .dead (fD 17) (.node .dead (.node .dead (fD 15) (.node .dead (fD 14) (lD (.cells 106 12 12 (.node (nI 1) (.node (nI 0)
  (.node (nI 0) (lA (.str (bs [])) 20) (lA (nI 0) 20)) (.node (nU 0) (lA (nI 0) 20) (fA 21))) (.node (nI 0) (.node (nU 0) (lA (nU 0) 20) (fA 21)) (.node (nI 0) (lA .nilsl 20) (fA
  21)))) true false) 13))) (fD 16))) (fD 18))) (.node .dead (fD 19) (.node .dead (.node .dead (fD 17) (.node .dead (.node .dead (.node .dead (fD 14) (.node .dead (fD 13) (.node .dead
  (lD o21 11) (fD 12)))) (fD 15)) (fD 16))) (fD 18)))) (.node .dead (.node .dead (.node .dead (.node .dead (fD 17) (.node .dead (fD 16) (.node .dead (fD 15) (lD o15 14)))) (.node
  .dead (fD 17) (.node .dead (fD 16) (.node .dead (.node .dead (fD 14) (.node .dead (.node .dead (fD 12) (lD (.cells 52 1 1 (lA (.sl 6880 0 0 3072 (.u 6880 0)) 23) true false) 11))
  (fD 13))) (fD 15))))) (.node .dead (lD (.cells 31 10 10 (.node (.ptr 61 0) (.node (nI 1) (.node (nI 0) (lA .nil 20) (fA 21)) (.node (.bool false) (lA .nilfn 20) (fA 21))) (.node
  (nI 1) (.node .nilsl (lA .nil 20) (fA 21)) (lA .nilsl 21))) true false) 17) (fD 18))) (.node .dead (fD 19) (.node (.cells 114 7 7 (.node (.sl 84 0 0 8 (.u 84 0)) (.node (.sl 82 0 0
  8 (.u 82 0)) (lA (nU 0) 21) (lA (nU 0) 21)) (.node (.map 60) (lA (nU 0) 21) (lA (nU 0) 21))) true false) (.node o1 (fD 17) (.node .dead (.node .dead (.node .dead (fD 14) (.node
  .dead (fD 13) (.node .dead (lD o22 11) (fD 12)))) (fD 15)) (fD 16))) (fD 18)))))) (.node .dead (.node .dead (.node .dead (.node .dead (.node .dead (.node .dead (fD 17) (lD (.cells
  114 7 7 (.node (.sl 967 0 0 384 (.u 967 0)) (.node (.sl 965 0 0 384 (.u 965 0)) (lA (nU 384) 21) (lA (nU 0) 21)) (.node (.map 191) (lA (nU 0) 21) (lA (nU 0) 21))) true false) 16))
  (.node .dead (fD 17) (.node .dead (.node .dead (.node .dead (fD 14) (.node .dead (lD o17 12) (.node .dead (lD o15 11) (fD 12)))) (fD 15)) (.node .dead (.node .dead (fD 14) (.node
  .dead (.node .dead (fD 12) (lD o39 11)) (fD 13))) (fD 15))))) (fD 19)) (.node .dead (.node .dead (.node .dead (fD 17) (.node .dead (fD 16) (.node .dead (fD 15) (lD o20 14))))
  (.node .dead (fD 17) (.node .dead (fD 16) (.node .dead (.node .dead (fD 14) (.node .dead (.node .dead (fD 12) (lD o36 11)) (fD 13))) (fD 15))))) (.node .dead (.node .dead (fD 17)
  (.node .dead (.node .dead (fD 15) (.node .dead (fD 14) (lD (.cells 22 1 1 (lA (.ptr 968 0) 23) true false) 13))) (fD 16))) (fD 18)))) (.node .dead (.node .dead (.node .dead (fD 18)
  (.node o7 (fD 17) (.node .dead (fD 16) (.node .dead (.node .dead (fD 14) (.node .dead (.node .dead (fD 12) (lD (.cells 87 1 1 (lA (.sl 7116 0 0 114 (.u 7116 0)) 23) true false)
  11)) (fD 13))) (fD 15))))) (.node .dead (lD (.cells 43 1 8 (.node (nU 0) (.node (nU 0) (.node (nU 0) (lA (nU 0) 20) (fA 21)) (lA (nU 0) 21)) (.node (nU 0) (lA (nU 0) 21) (lA (nU 0)
  21))) false false) 17) (fD 18))) (.node .dead (.node .dead (.node .dead (fD 17) (.node .dead (fD 16) (.node .dead (fD 15) (.node .dead (fD 14) (.node .dead (.node .dead (fD 12) (lD
  (.cells 43 1 114 (.node (nU 5929342154728227142) (.node (nU 3072) (.node (nU 18446744073709548543) (.node (nU 0) (.node (nU 0) (.node (nU 0) (lA (nU 0) 17) (lA (nU 0) 17)) (.node
  (nU 0) (lA (nU 0) 17) (lA (nU 0) 17))) (.node (nU 0) (.node (nU 0) (lA (nU 0) 17) (lA (nU 0) 17)) (.node (nU 0) (lA (nU 0) 17) (fA 18)))) (.node (nU 0) (.node (nU 0) (.node (nU 0)
  (lA (nU 0) 17) (lA (nU 0) 17)) (.node (nU 0) (lA (nU 0) 17) (fA 18))) (.node (nU 0) (.node (nU 0) (lA (nU 0) 17) (lA (nU 0) 17)) (.node (nU 0) (lA (nU 0) 17) (fA 18))))) (.node (nU
  0) (.node (nU 0) (.node (nU 0) (.node (nU 0) (lA (nU 0) 17) (lA (nU 0) 17)) (.node (nU 0) (lA (nU 0) 17) (lA (nU 0) 17))) (.node (nU 0) (.node (nU 0) (lA (nU 0) 17) (lA (nU 0) 17))
  (.node (nU 0) (lA (nU 0) 17) (fA 18)))) (.node (nU 0) (.node (nU 0) (.node (nU 0) (lA (nU 0) 17) (lA (nU 0) 17)) (.node (nU 0) (lA (nU 0) 17) (fA 18))) (.node (nU 0) (.node (nU 0)
  (lA (nU 0) 17) (lA (nU 0) 17)) (.node (nU 0) (lA (nU 0) 17) (fA 18)))))) (.node (nU 1088) (.node (nU 0) (.node (nU 0) (.node (nU 0) (.node (nU 0) (lA (nU 0) 17) (lA (nU 0) 17))
  (.node (nU 0) (lA (nU 0) 17) (lA (nU 0) 17))) (.node (nU 0) (.node (nU 0) (lA (nU 0) 17) (lA (nU 0) 17)) (.node (nU 0) (lA (nU 0) 17) (fA 18)))) (.node (nU 0) (.node (nU 0) (.node
  (nU 0) (lA (nU 0) 17) (lA (nU 0) 17)) (.node (nU 0) (lA (nU 0) 17) (fA 18))) (.node (nU 0) (.node (nU 0) (lA (nU 0) 17) (lA (nU 0) 17)) (.node (nU 0) (lA (nU 0) 17) (fA 18)))))
  (.node (nU 0) (.node (nU 0) (.node (nU 0) (.node (nU 0) (lA (nU 0) 17) (lA (nU 0) 17)) (.node (nU 0) (lA (nU 0) 17) (fA 18))) (.node (nU 0) (.node (nU 0) (lA (nU 0) 17) (lA (nU 0)
  17)) (.node (nU 0) (lA (nU 0) 17) (fA 18)))) (.node (nU 0) (.node (nU 0) (.node (nU 0) (lA (nU 0) 17) (lA (nU 0) 17)) (.node (nU 0) (lA (nU 0) 17) (fA 18))) (.node (nU 0) (.node
  (nU 0) (lA (nU 0) 17) (lA (nU 0) 17)) (.node (nU 0) (lA (nU 0) 17) (fA 18))))))) false false) 11)) (fD 13)))))) (fD 18)) (.node (.map [] 0) (.node .dead (fD 17) (.node .dead (.node
  .dead (.node .dead (fD 14) (.node .dead (fD 13) (.node .dead (lD (.map [⟨(nI 1), (.fn (.func 33) [] []), 0⟩, ⟨(nI 2), (.fn (.func 34) [] []), 1⟩, ⟨(nI 3), (.fn (.func 35) [] []),
  2⟩, ⟨(nI 4), (.fn (.func 36) [] []), 3⟩, ⟨(nI 5), (.fn (.func 37) [] []), 4⟩, ⟨(nI 6), (.fn (.func 38) [] []), 5⟩, ⟨(nI 7), (.fn (.func 39) [] []), 6⟩] 7) 11) (fD 12)))) (fD 15))
  (fD 16))) (fD 18))))) (.node o1 (.node .dead (.node .dead (.node .dead (fD 18) (.node .dead (fD 17) (.node .dead (fD 16) (.node .dead (.node .dead (fD 14) (.node .dead (.node .dead
  (fD 12) (lD (.cells 73 6 6 (.node .nilsl (.node .nilsl (lA .nilsl 21) (lA (nI 0) 21)) (.node .nilsl (lA (nI 0) 21) (fA 22))) true false) 11)) (fD 13))) (fD 15))))) (.node .dead
  (.node (.cells 43 1 8 (.node (nU 0) (.node (nU 0) (.node (nU 0) (lA (nU 0) 20) (fA 21)) (lA (nU 0) 21)) (.node (nU 0) (lA (nU 0) 21) (lA (nU 0) 21))) false false) (fD 17) (.node
  .dead (.node .dead (fD 15) (.node .dead (fD 14) (lD (.cells 106 12 12 (.node (nI 1) (.node (nI 0) (.node (nI 0) (lA (.str (bs [])) 20) (lA (nI 0) 20)) (.node (nU 0) (lA (nI 0) 20)
  (fA 21))) (.node (nI 0) (.node (nU 0) (lA (nU 0) 20) (fA 21)) (.node (nI 0) (lA .nilsl 20) (fA 21)))) true false) 13))) (fD 16))) (fD 18))) (.node .dead (fD 19) (.node .dead (.node
  .dead (fD 17) (.node .dead (.node .dead (.node .dead (fD 14) (.node .dead (fD 13) (.node .dead (lD (.cells 49 10 10 (.node (nI 7) (.node (nI 0) (.node (nU 0) (lA (nU 0) 20) (fA
  21)) (.node (nI 0) (lA .nilsl 20) (fA 21))) (.node (nI 0) (.node (nU 0) (lA (nI 0) 20) (fA 21)) (lA (.str (bs [])) 21))) true false) 11) (fD 12)))) (.node .dead (fD 14) (lD o25
  13))) (fD 16))) (fD 18)))) (.node .dead (.node .dead (.node .dead (fD 18) (.node .dead (fD 17) (.node .dead (fD 16) (.node .dead (.node .dead (fD 14) (.node .dead (.node .dead (fD
  12) (lD (.cells 3 1 1 (lA (nI 8) 23) true false) 11)) (fD 13))) (fD 15))))) (fD 19)) (.node .dead (fD 19) (.node .dead (.node .dead (fD 17) (.node .dead (.node .dead (.node .dead
  (fD 14) (.node .dead (lD o19 12) (.node .dead (lD (.cells 49 10 10 (.node (nI 7) (.node (nI 0) (.node (nU 0) (lA (nU 0) 20) (fA 21)) (.node (nI 0) (lA .nilsl 20) (fA 21))) (.node
  (nI 0) (.node (nU 0) (lA (nI 0) 20) (fA 21)) (lA (.str (bs [])) 21))) true false) 11) (fD 12)))) (fD 15)) (fD 16))) (fD 18))))))), 7117⟩,
  [.lp (codeAt Tryz.f80 [1, 0, 0]), .blk
  0]⟩
/-- where the run stands at the end of part 17 -/
noncomputable def s17 : St :=
  ⟨⟨80, 31, [], .normal, none,
  [o35,
    o37,
    o32,
    o31,
    o34,
    o33,
    o38,
    o26,
    o23,
    o27,
    o30,
    o28,
    o18,
    o16,
    o6]⟩,
  .run,
  (.node
  (.yld 6888) (.node (.ptr 6885 0) (.node undefV (.node (.sl 6880 0 0 3072 (.u 6880 0)) (lU (nI 2104) 19) (lU (nI 8) 19)) (.node (nI 8) (lU (.yld 6888) 19) (lU (nI 2112) 19))) (.node
  (nI 8) (.node (.bool true) (lU (nI 968) 19) (lU (nI 2104) 19)) (.node (nI 8) (lU (nI 2104) 19) (lU (.bool true) 19)))) (.node (.ptr 6886 0) (.node (nI 2112) (.node (nI 3072) (lU
  (.sl 6880 2104 0 968 (.u 6880 2104)) 19) (lU (nI 2112) 19)) (.node (nI 2112) (lU (.sl 6880 0 0 3072 (.u 6880 0)) 19) (lU (.sl 6880 2104 0 8 (.k 8)) 19))) (.node (nI 2104) (.node
  (nI 2104) (lU (nI 8) 19) (lU (nI 8) 19)) (.node (.sl 6880 0 0 3072 (.u 6880 0)) (lU (nI 2104) 19) (lU (.bool false) 19))))),
  ⟨(.node (.cells 31 10 10 (.node .nil (.node (nI 0)
  (.node (nI 0) (lA .nil 20) (fA 21)) (.node (.bool false) (lA .nilfn 20) (fA 21))) (.node (nI 0) (.node .nilsl (lA .nil 20) (fA 21)) (lA .nilsl 21))) true false) (.node .dead (.node
  o1 (.node (.cells 5 1 64 (fB 24) true false) (.node .dead (.node .dead (.node .dead (fD 17) (lD (.map [] 0) 16)) (.node .dead (fD 17) (.node .dead (.node .dead (.node .dead (fD 14)
  (.node .dead (lD (.cells 167 1 1 (lA (.ptr 1882 0) 23) true false) 12) (.node .dead (lD (.cells 43 1 1 (lA (nU 0) 23) true false) 11) (fD 12)))) (fD 15)) (fD 16)))) (fD 19)) (.node
  .dead (.node .dead (.node .dead (fD 17) (.node .dead (fD 16) (.node .dead (fD 15) (lD o15 14)))) (.node .dead (fD 17) (.node .dead (fD 16) (.node .dead (.node .dead (fD 14) (.node
  .dead (.node .dead (fD 12) (lD (.defd (some [])) 11)) (fD 13))) (fD 15))))) (fD 19))) (.node .dead (.node .dead (.node .dead (fD 18) (.node (.cells 99 3 3 (.node .nilsl (lA .nilsl
  22) (lA (.bool false) 22)) false false) (fD 17) (.node .dead (fD 16) (.node .dead (.node .dead (fD 14) (.node .dead (.node .dead (fD 12) (lD (.cells 33 1 1 (lA (nI 0) 23) true
  false) 11)) (fD 13))) (fD 15))))) (.node .dead (.node .dead (fD 17) (.node .dead (.node .dead (fD 15) (.node .dead (fD 14) (lD (.cells 49 10 10 (.node (nI 5) (.node (nI 0) (.node
  (nU 0) (lA (nU 0) 20) (fA 21)) (.node (nI 0) (lA .nilsl 20) (fA 21))) (.node (nI 0) (.node (nU 0) (lA (nI 0) 20) (fA 21)) (lA (.str (bs [])) 21))) true false) 13))) (fD 16))) (fD
  18))) (.node .dead (fD 19) (.node (.cells 5 1 64 (fB 24) true false) (.node .dead (fD 17) (.node .dead (.node .dead (.node .dead (fD 14) (.node .dead (fD 13) (.node .dead (lD o1
  11) (fD 12)))) (fD 15)) (fD 16))) (fD 18))))) (.node .dead (.node .dead (.node .dead (.node (.cells 5 1 64 (fB 24) true false) (fD 18) (.node .dead (fD 17) (.node .dead (.node
  .dead (.node .dead (fD 14) (.node .dead (lD o1 12) (fD 13))) (fD 15)) (.node .dead (.node .dead (fD 14) (.node .dead (.node .dead (fD 12) (lD (.cells 52 1 1 (lA (.sl 6880 0 0 3072
  (.u 6880 0)) 23) true false) 11)) (fD 13))) (fD 15))))) (.node .dead (.node .dead (fD 17) (.node .dead (.node .dead (fD 15) (.node .dead (fD 14) (lD (.cells 106 12 12 (.node (nI 1)
  (.node (nI 0) (.node (nI 0) (lA (.str (bs [])) 20) (lA (nI 0) 20)) (.node (nU 0) (lA (nI 0) 20) (fA 21))) (.node (nI 0) (.node (nU 0) (lA (nU 0) 20) (fA 21)) (.node (nI 0) (lA
  .nilsl 20) (fA 21)))) true false) 13))) (fD 16))) (fD 18))) (.node .dead (fD 19) (.node .dead (.node .dead (fD 17) (.node .dead (.node .dead (.node .dead (fD 14) (.node .dead (fD
  13) (.node .dead (lD o21 11) (fD 12)))) (fD 15)) (fD 16))) (fD 18)))) (.node .dead (.node .dead (.node .dead (.node .dead (fD 17) (.node .dead (fD 16) (.node .dead (fD 15) (lD o15
  14)))) (.node .dead (fD 17) (.node .dead (fD 16) (.node .dead (.node .dead (fD 14) (.node .dead (.node .dead (fD 12) (lD (.cells 52 1 1 (lA (.sl 6880 0 0 3072 (.u 6880 0)) 23) true
  false) 11)) (fD 13))) (fD 15))))) (.node .dead (lD (.cells 31 10 10 (.node (.ptr 61 0) (.node (nI 1) (.node (nI 0) (lA .nil 20) (fA 21)) (.node (.bool false) (lA .nilfn 20) (fA
  21))) (.node (nI 1) (.node .nilsl (lA .nil 20) (fA 21)) (lA .nilsl 21))) true false) 17) (fD 18))) (.node .dead (fD 19) (.node (.cells 114 7 7 (.node (.sl 84 0 0 8 (.u 84 0))
  (.node (.sl 82 0 0 8 (.u 82 0)) (lA (nU 0) 21) (lA (nU 0) 21)) (.node (.map 60) (lA (nU 0) 21) (lA (nU 0) 21))) true false) (.node o1 (fD 17) (.node .dead (.node .dead (.node .dead
  (fD 14) (.node .dead (fD 13) (.node .dead (lD o22 11) (fD 12)))) (fD 15)) (fD 16))) (fD 18)))))) (.node .dead (.node .dead (.node .dead (.node .dead (.node .dead (.node .dead (fD
  17) (lD (.cells 114 7 7 (.node (.sl 967 0 0 384 (.u 967 0)) (.node (.sl 965 0 0 384 (.u 965 0)) (lA (nU 384) 21) (lA (nU 0) 21)) (.node (.map 191) (lA (nU 0) 21) (lA (nU 0) 21)))
  true false) 16)) (.node .dead (fD 17) (.node .dead (.node .dead (.node .dead (fD 14) (.node .dead (lD o17 12) (.node .dead (lD o15 11) (fD 12)))) (fD 15)) (.node .dead (.node .dead
  (fD 14) (.node .dead (.node .dead (fD 12) (lD o39 11)) (fD 13))) (fD 15))))) (fD 19)) (.node .dead (.node .dead (.node .dead (fD 17) (.node .dead (fD 16) (.node .dead (fD 15) (lD
  o20 14)))) (.node .dead (fD 17) (.node .dead (fD 16) (.node .dead (.node .dead (fD 14) (.node .dead (.node .dead (fD 12) (lD o36 11)) (fD 13))) (fD 15))))) (.node .dead (.node
  .dead (fD 17) (.node .dead (.node .dead (fD 15) (.node .dead (fD 14) (lD (.cells 22 1 1 (lA (.ptr 968 0) 23) true false) 13))) (fD 16))) (.node .dead (fD 17) (.node .dead (fD 16)
  (.node .dead (.node .dead (.node .dead (fD 13) (.node .dead (fD 12) (lD (.cells 43 1 264 (.node (nU 5929342154728227142) (.node (nU 3072) (.node (nU 18446744073709548543) (.node
  (nU 0) (.node (nU 0) (.node (nU 0) (.node (nU 0) (.node (nU 0) (lA (nU 0) 15) (fA 16)) (lA (nU 0) 16)) (.node (nU 0) (lA (nU 0) 16) (lA (nU 0) 16))) (.node (nU 0) (.node (nU 0) (lA
  (nU 0) 16) (lA (nU 0) 16)) (.node (nU 0) (lA (nU 0) 16) (lA (nU 0) 16)))) (.node (nU 0) (.node (nU 0) (.node (nU 0) (.node (nU 0) (lA (nU 0) 15) (fA 16)) (lA (nU 0) 16)) (.node (nU
  0) (lA (nU 0) 16) (lA (nU 0) 16))) (.node (nU 0) (.node (nU 0) (lA (nU 0) 16) (lA (nU 0) 16)) (.node (nU 0) (lA (nU 0) 16) (lA (nU 0) 16))))) (.node (nU 0) (.node (nU 0) (.node (nU
  0) (.node (nU 0) (.node (nU 0) (lA (nU 0) 15) (fA 16)) (lA (nU 0) 16)) (.node (nU 0) (lA (nU 0) 16) (lA (nU 0) 16))) (.node (nU 0) (.node (nU 0) (lA (nU 0) 16) (lA (nU 0) 16))
  (.node (nU 0) (lA (nU 0) 16) (lA (nU 0) 16)))) (.node (nU 0) (.node (nU 0) (.node (nU 0) (lA (nU 0) 16) (lA (nU 0) 16)) (.node (nU 0) (lA (nU 0) 16) (lA (nU 0) 16))) (.node (nU 0)
  (.node (nU 0) (lA (nU 0) 16) (lA (nU 0) 16)) (.node (nU 0) (lA (nU 0) 16) (lA (nU 0) 16)))))) (.node (nU 0) (.node (nU 0) (.node (nU 0) (.node (nU 0) (.node (nU 0) (.node (nU 1)
  (lA (nU 0) 15) (fA 16)) (lA (nU 0) 16)) (.node (nU 0) (lA (nU 0) 16) (lA (nU 0) 16))) (.node (nU 0) (.node (nU 0) (lA (nU 0) 16) (lA (nU 0) 16)) (.node (nU 0) (lA (nU 0) 16) (lA
  (nU 0) 16)))) (.node (nU 0) (.node (nU 0) (.node (nU 0) (lA (nU 0) 16) (lA (nU 0) 16)) (.node (nU 0) (lA (nU 0) 16) (lA (nU 0) 16))) (.node (nU 0) (.node (nU 0) (lA (nU 0) 16) (lA
  (nU 0) 16)) (.node (nU 0) (lA (nU 0) 16) (lA (nU 0) 16))))) (.node (nU 0) (.node (nU 0) (.node (nU 0) (.node (nU 0) (.node (nU 0) (lA (nU 0) 15) (fA 16)) (lA (nU 0) 16)) (.node (nU
  0) (lA (nU 0) 16) (lA (nU 0) 16))) (.node (nU 0) (.node (nU 0) (lA (nU 0) 16) (lA (nU 0) 16)) (.node (nU 0) (lA (nU 0) 16) (lA (nU 0) 16)))) (.node (nU 0) (.node (nU 0) (.node (nU
  0) (lA (nU 0) 16) (lA (nU 0) 16)) (.node (nU 0) (lA (nU 0) 16) (lA (nU 0) 16))) (.node (nU 0) (.node (nU 0) (lA (nU 0) 16) (lA (nU 0) 16)) (.node (nU 0) (lA (nU 0) 16) (lA (nU 0)
  16))))))) (.node (nU 1088) (.node (nU 0) (.node (nU 0) (.node (nU 0) (.node (nU 0) (.node (nU 0) (.node (nU 3) (lA (nU 0) 15) (fA 16)) (lA (nU 0) 16)) (.node (nU 0) (lA (nU 0) 16)
  (lA (nU 0) 16))) (.node (nU 0) (.node (nU 0) (lA (nU 0) 16) (lA (nU 0) 16)) (.node (nU 0) (lA (nU 0) 16) (lA (nU 0) 16)))) (.node (nU 0) (.node (nU 0) (.node (nU 0) (lA (nU
  5495893775785918464) 16) (lA (nU 0) 16)) (.node (nU 0) (lA (nU 0) 16) (lA (nU 0) 16))) (.node (nU 0) (.node (nU 0) (lA (nU 0) 16) (lA (nU 0) 16)) (.node (nU 0) (lA (nU 0) 16) (lA
  (nU 0) 16))))) (.node (nU 0) (.node (nU 0) (.node (nU 0) (.node (nU 0) (.node (nU 0) (lA (nU 0) 15) (fA 16)) (lA (nU 0) 16)) (.node (nU 0) (lA (nU 0) 16) (lA (nU 0) 16))) (.node
  (nU 0) (.node (nU 0) (lA (nU 0) 16) (lA (nU 0) 16)) (.node (nU 0) (lA (nU 0) 16) (lA (nU 0) 16)))) (.node (nU 0) (.node (nU 0) (.node (nU 0) (lA (nU 1088) 16) (lA (nU 0) 16))
  (.node (nU 0) (lA (nU 0) 16) (lA (nU 0) 16))) (.node (nU 0) (.node (nU 0) (lA (nU 0) 16) (lA (nU 0) 16)) (.node (nU 0) (lA (nU 0) 16) (lA (nU 0) 16)))))) (.node (nU 0) (.node (nU
  0) (.node (nU 0) (.node (nU 0) (.node (nU 0) (.node (nU 0) (lA (nU 0) 15) (fA 16)) (lA (nU 0) 16)) (.node (nU 0) (lA (nU 0) 16) (lA (nU 0) 16))) (.node (nU 0) (.node (nU 0) (lA (nU
  0) 16) (lA (nU 0) 16)) (.node (nU 0) (lA (nU 0) 16) (lA (nU 0) 16)))) (.node (nU 0) (.node (nU 0) (.node (nU 0) (lA (nU 0) 16) (lA (nU 0) 16)) (.node (nU 0) (lA (nU 0) 16) (lA (nU
  0) 16))) (.node (nU 0) (.node (nU 0) (lA (nU 0) 16) (lA (nU 0) 16)) (.node (nU 0) (lA (nU 0) 16) (lA (nU 0) 16))))) (.node (nU 0) (.node (nU 0) (.node (nU 0) (.node (nU 0) (.node
  (nU 0) (lA (nU 0) 15) (fA 16)) (lA (nU 0) 16)) (.node (nU 0) (lA (nU 0) 16) (lA (nU 0) 16))) (.node (nU 0) (.node (nU 0) (lA (nU 0) 16) (lA (nU 0) 16)) (.node (nU 0) (lA (nU 0) 16)
  (lA (nU 0) 16)))) (.node (nU 0) (.node (nU 0) (.node (nU 0) (lA (nU 0) 16) (lA (nU 0) 16)) (.node (nU 0) (lA (nU 0) 16) (lA (nU 0) 16))) (.node (nU 0) (.node (nU 0) (lA (nU 0) 16)
  (lA (nU 0) 16)) (.node (nU 0) (lA (nU 0) 16) (lA (nU 0) 16)))))))) false false) 11))) (fD 14)) (fD 15))))))) (.node .dead (.node .dead (.node .dead (fD 18) (.node o7 (fD 17) (.node
  .dead (fD 16) (.node .dead (.node .dead (fD 14) (.node .dead (.node .dead (fD 12) (lD (.cells 87 1 1 (lA (.sl 7416 0 0 264 (.u 7416 0)) 23) true false) 11)) (fD 13))) (fD 15)))))
  (.node .dead (lD (.cells 43 1 8 (.node (nU 0) (.node (nU 0) (.node (nU 0) (lA (nU 0) 20) (fA 21)) (lA (nU 0) 21)) (.node (nU 0) (lA (nU 0) 21) (lA (nU 0) 21))) false false) 17) (fD
  18))) (.node .dead (fD 19) (.node (.map [] 0) (.node .dead (fD 17) (.node .dead (.node .dead (.node .dead (fD 14) (.node .dead (fD 13) (.node .dead (lD (.map [⟨(nI 1), (.fn (.func
  33) [] []), 0⟩, ⟨(nI 2), (.fn (.func 34) [] []), 1⟩, ⟨(nI 3), (.fn (.func 35) [] []), 2⟩, ⟨(nI 4), (.fn (.func 36) [] []), 3⟩, ⟨(nI 5), (.fn (.func 37) [] []), 4⟩, ⟨(nI 6), (.fn
  (.func 38) [] []), 5⟩, ⟨(nI 7), (.fn (.func 39) [] []), 6⟩] 7) 11) (fD 12)))) (fD 15)) (fD 16))) (fD 18))))) (.node o1 (.node .dead (.node .dead (.node .dead (fD 18) (.node .dead
  (fD 17) (.node .dead (fD 16) (.node .dead (.node .dead (fD 14) (.node .dead (.node .dead (fD 12) (lD (.cells 73 6 6 (.node .nilsl (.node .nilsl (lA .nilsl 21) (lA (nI 0) 21))
  (.node .nilsl (lA (nI 0) 21) (fA 22))) true false) 11)) (fD 13))) (fD 15))))) (.node .dead (.node (.cells 43 1 8 (.node (nU 0) (.node (nU 0) (.node (nU 0) (lA (nU 0) 20) (fA 21))
  (lA (nU 0) 21)) (.node (nU 0) (lA (nU 0) 21) (lA (nU 0) 21))) false false) (fD 17) (.node .dead (.node .dead (fD 15) (.node .dead (fD 14) (lD (.cells 106 12 12 (.node (nI 1) (.node
  (nI 0) (.node (nI 0) (lA (.str (bs [])) 20) (lA (nI 0) 20)) (.node (nU 0) (lA (nI 0) 20) (fA 21))) (.node (nI 0) (.node (nU 0) (lA (nU 0) 20) (fA 21)) (.node (nI 0) (lA .nilsl 20)
  (fA 21)))) true false) 13))) (fD 16))) (fD 18))) (.node .dead (fD 19) (.node .dead (.node .dead (fD 17) (.node .dead (.node .dead (.node .dead (fD 14) (.node .dead (fD 13) (.node
  .dead (lD (.cells 49 10 10 (.node (nI 7) (.node (nI 0) (.node (nU 0) (lA (nU 0) 20) (fA 21)) (.node (nI 0) (lA .nilsl 20) (fA 21))) (.node (nI 0) (.node (nU 0) (lA (nI 0) 20) (fA
  21)) (lA (.str (bs [])) 21))) true false) 11) (fD 12)))) (.node .dead (fD 14) (lD o25 13))) (fD 16))) (fD 18)))) (.node .dead (.node .dead (.node .dead (fD 18) (.node .dead (fD 17)
  (.node .dead (fD 16) (.node .dead (.node .dead (fD 14) (.node .dead (.node .dead (fD 12) (lD (.cells 3 1 1 (lA (nI 8) 23) true false) 11)) (fD 13))) (fD 15))))) (fD 19)) (.node
  .dead (fD 19) (.node .dead (.node .dead (fD 17) (.node .dead (.node .dead (.node .dead (fD 14) (.node .dead (lD o19 12) (.node .dead (lD (.cells 49 10 10 (.node (nI 7) (.node (nI
  0) (.node (nU 0) (lA (nU 0) 20) (fA 21)) (.node (nI 0) (lA .nilsl 20) (fA 21))) (.node (nI 0) (.node (nU 0) (lA (nI 0) 20) (fA 21)) (lA (.str (bs [])) 21))) true false) 11) (fD
  12)))) (fD 15)) (fD 16))) (fD 18))))))), 7417⟩,
  [.lp (codeAt Tryz.f80 [1, 0, 0]), .blk 0]⟩
/-- where the run stands at the end of part 18 -/
noncomputable def s18 : St :=
  ⟨⟨84, 25, [], .normal, none,
  [⟨45, 80, [], .normal, none, .run, (.node (.sl 6880 0 0 3072 (.u 6880 0)) (.node undefV (.node (.ptr 7659 0) (.node undefV (lU (.ptr 7659 0) 19) (fU
  20)) (.node (.sl 6880 0 0 3072 (.u 6880 0)) (lU (nU 1088) 19) (fU 20))) (.node undefV (.node (.ptr 7659 0) (lU (nU 1088) 19) (fU 20)) (fU 21))) (.node .nil (.node (nU 1088) (.node
  (.sl 6880 0 0 3072 (.u 6880 0)) (lU (.ptr 7659 2) 19) (fU 20)) (lU (nI 3072) 20)) (.node undefV (.node (.ptr 7659 0) (lU (.ptr 7659 0) 19) (fU 20)) (lU (.ptr 7659 0) 20)))), [.reg
  (opsAt Tryz.f45 [1, 0, 1, 1, 1, 0]) ((opsAt Tryz.f45 [1, 0, 1, 1, 1, 0]).toList.drop 2), .code (codeAt Tryz.f45 [1, 0, 1, 1, 1, 1]), .sc (codeAt Tryz.f45 [1, 0])]⟩,
    o31,
   
  o34,
    o33,
    o38,
    o26,
    o23,
    o27,
    o30,
    o28,
    o18,
    o16,
    o6]⟩,
  .run,
  (.node (.ptr 7659 0) (lU (nU 1088) 22) (.node undefV (lU (.ptr 7688 0) 21)
  (fU 22))),
  ⟨(.node (.cells 31 10 10 (.node .nil (.node (nI 0) (.node (nI 0) (lA .nil 20) (fA 21)) (.node (.bool false) (lA .nilfn 20) (fA 21))) (.node (nI 0) (.node .nilsl (lA
  .nil 20) (fA 21)) (lA .nilsl 21))) true false) (.node .dead (.node o1 (.node (.cells 5 1 64 (fB 24) true false) (.node .dead (.node .dead (.node .dead (fD 17) (lD (.map [] 0) 16))
  (.node .dead (fD 17) (.node .dead (.node .dead (.node .dead (fD 14) (.node .dead (lD (.cells 167 1 1 (lA (.ptr 1882 0) 23) true false) 12) (.node .dead (lD (.cells 43 1 1 (lA (nU
  0) 23) true false) 11) (fD 12)))) (fD 15)) (fD 16)))) (fD 19)) (.node .dead (.node .dead (.node .dead (fD 17) (.node .dead (fD 16) (.node .dead (fD 15) (lD o15 14)))) (fD 18)) (fD
  19))) (.node .dead (.node .dead (.node .dead (fD 18) (.node (.cells 99 3 3 (.node .nilsl (lA .nilsl 22) (lA (.bool false) 22)) false false) (fD 17) (.node .dead (fD 16) (.node
  .dead (.node .dead (fD 14) (.node .dead (.node .dead (fD 12) (lD (.cells 33 1 1 (lA (nI 0) 23) true false) 11)) (fD 13))) (fD 15))))) (.node .dead (.node .dead (fD 17) (.node .dead
  (.node .dead (fD 15) (.node .dead (fD 14) (lD (.cells 49 10 10 (.node (nI 5) (.node (nI 0) (.node (nU 0) (lA (nU 0) 20) (fA 21)) (.node (nI 0) (lA .nilsl 20) (fA 21))) (.node (nI
  0) (.node (nU 0) (lA (nI 0) 20) (fA 21)) (lA (.str (bs [])) 21))) true false) 13))) (fD 16))) (fD 18))) (.node .dead (.node .dead (fD 18) (.node .dead (fD 17) (.node .dead (fD 16)
  (.node .dead (fD 15) (.node .dead (.node .dead (fD 13) (.node .dead (fD 12) (lD (.cells 126 6 6 (.node (.sl 7656 0 0 384 (.u 7656 0)) (.node (.sl 7657 0 0 3 (.k 3)) (lA (.map 7658)
  21) (lA .nilsl 21)) (.node (nU 1088) (lA .nilsl 21) (fA 22))) true false) 11))) (fD 14)))))) (.node (.cells 5 1 64 (fB 24) true false) (.node .dead (fD 17) (.node .dead (.node
  .dead (.node .dead (fD 14) (.node .dead (fD 13) (.node .dead (lD o1 11) (fD 12)))) (fD 15)) (fD 16))) (fD 18))))) (.node .dead (.node .dead (.node .dead (.node (.cells 5 1 64 (fB
  24) true false) (fD 18) (.node .dead (fD 17) (.node .dead (.node .dead (.node .dead (fD 14) (.node .dead (lD o1 12) (fD 13))) (fD 15)) (.node .dead (.node .dead (fD 14) (.node
  .dead (.node .dead (fD 12) (lD (.cells 52 1 1 (lA (.sl 6880 0 0 3072 (.u 6880 0)) 23) true false) 11)) (fD 13))) (fD 15))))) (.node .dead (.node .dead (fD 17) (.node .dead (.node
  .dead (fD 15) (.node .dead (fD 14) (lD (.cells 106 12 12 (.node (nI 1) (.node (nI 0) (.node (nI 0) (lA (.str (bs [])) 20) (lA (nI 0) 20)) (.node (nU 0) (lA (nI 0) 20) (fA 21)))
  (.node (nI 0) (.node (nU 0) (lA (nU 0) 20) (fA 21)) (.node (nI 0) (lA .nilsl 20) (fA 21)))) true false) 13))) (fD 16))) (fD 18))) (.node .dead (.node .dead (fD 18) (.node .dead (fD
  17) (.node .dead (fD 16) (.node .dead (fD 15) (.node .dead (.node .dead (fD 13) (.node .dead (fD 12) (lD (.cells 135 2 6 (.node (nI 0) (.node (nU 0) (lA (nU 1) 21) (lA (nU 0) 21))
  (.node (nI 3) (lA (nI 0) 21) (fA 22))) true false) 11))) (fD 14)))))) (.node .dead (.node .dead (fD 17) (.node .dead (.node .dead (.node .dead (fD 14) (.node .dead (fD 13) (.node
  .dead (lD o21 11) (fD 12)))) (fD 15)) (fD 16))) (fD 18)))) (.node .dead (.node .dead (.node .dead (.node .dead (fD 17) (.node .dead (fD 16) (.node .dead (fD 15) (lD o15 14)))) (fD
  18)) (.node .dead (lD (.cells 31 10 10 (.node (.ptr 61 0) (.node (nI 1) (.node (nI 0) (lA .nil 20) (fA 21)) (.node (.bool false) (lA .nilfn 20) (fA 21))) (.node (nI 1) (.node
  .nilsl (lA .nil 20) (fA 21)) (lA .nilsl 21))) true false) 17) (fD 18))) (.node .dead (fD 19) (.node (.cells 114 7 7 (.node (.sl 84 0 0 8 (.u 84 0)) (.node (.sl 82 0 0 8 (.u 82 0))
  (lA (nU 0) 21) (lA (nU 0) 21)) (.node (.map 60) (lA (nU 0) 21) (lA (nU 0) 21))) true false) (.node o1 (fD 17) (.node .dead (.node .dead (.node .dead (fD 14) (.node .dead (fD 13)
  (.node .dead (lD o22 11) (fD 12)))) (fD 15)) (fD 16))) (fD 18)))))) (.node .dead (.node .dead (.node .dead (.node .dead (.node .dead (.node .dead (fD 17) (lD (.cells 114 7 7 (.node
  (.sl 967 0 0 384 (.u 967 0)) (.node (.sl 965 0 0 384 (.u 965 0)) (lA (nU 384) 21) (lA (nU 0) 21)) (.node (.map 191) (lA (nU 0) 21) (lA (nU 0) 21))) true false) 16)) (.node .dead
  (fD 17) (.node .dead (.node .dead (.node .dead (fD 14) (.node .dead (lD o17 12) (.node .dead (lD o15 11) (fD 12)))) (fD 15)) (.node .dead (.node .dead (fD 14) (.node .dead (.node
  .dead (fD 12) (lD o39 11)) (fD 13))) (fD 15))))) (fD 19)) (.node .dead (.node .dead (.node .dead (.node .dead (.node .dead (.node .dead (fD 14) (.node .dead (fD 13) (.node .dead
  (fD 12) (lD (.cells 84 21 21 (.node (nI 0) (.node (nU 0) (.node (nU 0) (.node (nU 0) (lA (nU 0) 19) (fA 20)) (.node (nU 0) (lA (nU 0) 19) (fA 20))) (.node (nU 0) (.node (nU 0) (lA
  (nU 0) 19) (fA 20)) (lA (nU 0) 20))) (.node (nU 0) (.node (nU 0) (.node (nU 0) (lA (nU 0) 19) (fA 20)) (.node (nU 0) (lA (nU 0) 19) (fA 20))) (.node (nU 0) (.node (nU 0) (lA (nU 0)
  19) (fA 20)) (lA (nU 0) 20)))) true false) 11)))) (fD 15)) (fD 16)) (.node .dead (fD 16) (.node .dead (fD 15) (lD o20 14)))) (.node .dead (fD 17) (.node .dead (fD 16) (.node .dead
  (fD 15) (.node .dead (.node .dead (fD 13) (.node .dead (fD 12) (lD o15 11))) (fD 14)))))) (.node .dead (.node .dead (fD 17) (.node .dead (.node .dead (fD 15) (.node .dead (fD 14)
  (lD (.cells 22 1 1 (lA (.ptr 968 0) 23) true false) 13))) (fD 16))) (fD 18)))) (.node .dead (.node .dead (.node .dead (fD 18) (lD o7 17)) (.node .dead (lD (.cells 43 1 8 (.node (nU
  0) (.node (nU 0) (.node (nU 0) (lA (nU 0) 20) (fA 21)) (lA (nU 0) 21)) (.node (nU 0) (lA (nU 0) 21) (lA (nU 0) 21))) false false) 17) (fD 18))) (.node .dead (fD 19) (.node (.map []
  0) (.node .dead (fD 17) (.node .dead (.node .dead (.node .dead (fD 14) (.node .dead (fD 13) (.node .dead (lD (.map [⟨(nI 1), (.fn (.func 33) [] []), 0⟩, ⟨(nI 2), (.fn (.func 34) []
  []), 1⟩, ⟨(nI 3), (.fn (.func 35) [] []), 2⟩, ⟨(nI 4), (.fn (.func 36) [] []), 3⟩, ⟨(nI 5), (.fn (.func 37) [] []), 4⟩, ⟨(nI 6), (.fn (.func 38) [] []), 5⟩, ⟨(nI 7), (.fn (.func
  39) [] []), 6⟩] 7) 11) (fD 12)))) (fD 15)) (fD 16))) (fD 18))))) (.node o1 (.node .dead (.node .dead (.node .dead (fD 18) (.node .dead (fD 17) (.node .dead (fD 16) (.node .dead
  (.node .dead (fD 14) (.node .dead (.node .dead (fD 12) (lD (.cells 73 6 6 (.node .nilsl (.node .nilsl (lA .nilsl 21) (lA (nI 0) 21)) (.node .nilsl (lA (nI 0) 21) (fA 22))) true
  false) 11)) (fD 13))) (fD 15))))) (.node .dead (.node (.cells 43 1 8 (.node (nU 0) (.node (nU 0) (.node (nU 0) (lA (nU 0) 20) (fA 21)) (lA (nU 0) 21)) (.node (nU 0) (lA (nU 0) 21)
  (lA (nU 0) 21))) false false) (fD 17) (.node .dead (.node .dead (fD 15) (.node .dead (fD 14) (lD (.cells 106 12 12 (.node (nI 1) (.node (nI 0) (.node (nI 0) (lA (.str (bs [])) 20)
  (lA (nI 0) 20)) (.node (nU 0) (lA (nI 0) 20) (fA 21))) (.node (nI 0) (.node (nU 0) (lA (nU 0) 20) (fA 21)) (.node (nI 0) (lA .nilsl 20) (fA 21)))) true false) 13))) (fD 16))) (fD
  18))) (.node .dead (.node .dead (fD 18) (.node .dead (fD 17) (.node .dead (fD 16) (.node .dead (fD 15) (.node .dead (.node .dead (fD 13) (.node .dead (fD 12) (lD (.map [] 0) 11)))
  (fD 14)))))) (.node .dead (.node .dead (fD 17) (.node .dead (.node .dead (.node .dead (fD 14) (.node .dead (fD 13) (.node .dead (lD (.cells 49 10 10 (.node (nI 7) (.node (nI 0)
  (.node (nU 0) (lA (nU 0) 20) (fA 21)) (.node (nI 0) (lA .nilsl 20) (fA 21))) (.node (nI 0) (.node (nU 0) (lA (nI 0) 20) (fA 21)) (lA (.str (bs [])) 21))) true false) 11) (fD 12))))
  (.node .dead (fD 14) (lD o25 13))) (fD 16))) (fD 18)))) (.node .dead (fD 20) (.node .dead (fD 19) (.node .dead (.node .dead (fD 17) (.node .dead (.node .dead (.node .dead (fD 14)
  (.node .dead (lD o19 12) (.node .dead (lD (.cells 49 10 10 (.node (nI 7) (.node (nI 0) (.node (nU 0) (lA (nU 0) 20) (fA 21)) (.node (nI 0) (lA .nilsl 20) (fA 21))) (.node (nI 0)
  (.node (nU 0) (lA (nI 0) 20) (fA 21)) (lA (.str (bs [])) 21))) true false) 11) (fD 12)))) (fD 15)) (fD 16))) (fD 18))))))), 7689⟩,
  [.code (codeAt Tryz.f84 [1])]⟩
noncomputable def o42 : Fr :=
  ⟨74, 32, [], .normal, none, .run, (.node (.ptr 1882 0) (.node (nI 1) (.node undefV (.node undefV (lU (.ptr 1882 0) 19) (fU 20)) (lU (nI 0) 20)) (.node (nI 0) (lU (.ptr 1882 0) 20)
  (fU 21))) (.node undefV (.node .nil (fU 21) (lU (.bool false) 20)) (.node (nI 0) (lU (nI 0) 20) (fU 21)))), [.reg (opsAt Tryz.f74 [1, 1, 0]) ((opsAt Tryz.f74 [1, 1, 0]).toList.drop
  1), .code (codeAt Tryz.f74 [1, 1, 1])]⟩
noncomputable def o43 : Fr :=
  ⟨72, 50, [], .normal, none, .run, (.node (.ptr 2655 0) (.node (.ptr 1880 0) (.node (nI 0) (.node undefV (fU 20) (lU (.ptr 968 1) 19)) (lU (.bool true) 20)) (.node (nI 0) (.node
  (.ptr 1882 0) (lU (.ptr 968 0) 19) (fU 20)) (.node (.bool true) (lU (.ptr 968 0) 19) (fU 20)))) (.node (.bool false) (.node (.bool true) (.node (.tup [(.bool true), (nI 0)]) (lU
  (.ptr 968 0) 19) (lU (nI 1) 19)) (.node (nI 0) (lU (.ptr 1882 0) 19) (fU 20))) (.node undefV (.node (.tup [(.bool true), (nI 0)]) (lU (.ptr 968 2) 19) (fU 20)) (.node (.bool false)
  (lU (.ptr 968 0) 19) (fU 20))))), [.dr ⟨(opsAt Tryz.f72 [1, 1, 1, 1, 0, 0]), [0, 0, 2, 6, 14, 31, 63, 127, 127, 255, 1023], [5, 9, 10], 0, 0, 31⟩, .code (codeAt Tryz.f72 [1, 1, 1,
  1, 0, 1]), .code (codeAt Tryz.f72 [1, 1, 1, 1, 1])]⟩
noncomputable def o40 : Ob :=
  (.cells 31 10 10 (.node (.ptr 192 0) (.node (nI 1) (.node (nI 384) (lA .nil 20) (fA 21)) (.node (.bool true) (lA (.fn (.func 72) [] [(.ptr 2655 0), (.ptr 1880 0)]) 20) (fA 21)))
  (.node (nI 1) (.node .nilsl (lA .nil 20) (fA 21)) (lA .nilsl 21))) true false)
noncomputable def o41 : Ob :=
  (.cells 235 12 12 (.node (.ptr 192 0) (.node (.sl 2654 383 1 0 (.u 2654 384)) (.node (.fn (.func 118) [(.ptr 1882 0)] []) (lA (.sl 7756 0 0 1 (.u 7756 0)) 20) (lA (nI 1) 20))
  (.node (nI 0) (lA .nilsl 20) (fA 21))) (.node (.sl 5728 0 0 384 (.u 5728 0)) (.node (.bool true) (lA .nilsl 20) (fA 21)) (.node .nilsl (lA (nI 0) 20) (fA 21)))) true false)
/-- where the run stands at the end of part 19 -/
noncomputable def s19 : St :=
  ⟨⟨170, 20, [], .normal, none,
  [o24,
    o42,
    o43,
    o27,
    o30,
    o28,
    o18,
    o16,
    o6]⟩,
  .run,
  (.node (.sl 5728 0 0 384 (.u 5728 0)) (.node undefV (.node
  (.sl 7957 0 0 464 (.u 7957 0)) (.node (.sl 5728 0 0 384 (.u 5728 0)) (lU (.sl 7954 0 0 456 (.u 7954 0)) 19) (fU 20)) (lU (.ptr 5728 58) 20)) (.node (nU 0) (.node (nI 58) (lU (.sl
  7957 0 0 464 (.u 7957 0)) 19) (fU 20)) (lU (nU 0) 20))) (.node .nilsl (.node undefV (.node (nI 384) (lU (.sl 7956 0 0 8 (.k 8)) 19) (fU 20)) (lU (nU 0) 20)) (.node (.ptr 7956 0)
  (.node (.bool true) (lU (nI 58) 19) (fU 20)) (lU (.agg [(nB 0), (nB 0), (nB 0), (nB 0), (nB 0), (nB 0), (nB 0), (nB 0)]) 20)))),
  ⟨(.node (.cells 31 10 10 (.node .nil (.node (nI
  0) (.node (nI 0) (lA .nil 20) (fA 21)) (.node (.bool false) (lA .nilfn 20) (fA 21))) (.node (nI 0) (.node .nilsl (lA .nil 20) (fA 21)) (lA .nilsl 21))) true false) (.node .dead
  (.node o1 (.node (.cells 5 1 64 (fB 24) true false) (.node .dead (.node .dead (.node .dead (fD 17) (lD (.map [] 0) 16)) (.node .dead (fD 17) (.node .dead (.node .dead (.node .dead
  (fD 14) (.node .dead (lD (.cells 167 1 1 (lA (.ptr 1882 0) 23) true false) 12) (fD 13))) (fD 15)) (fD 16)))) (fD 19)) (.node .dead (.node .dead (.node .dead (fD 17) (.node .dead
  (fD 16) (.node .dead (fD 15) (lD o15 14)))) (fD 18)) (fD 19))) (.node .dead (.node .dead (.node .dead (fD 18) (lD (.cells 99 3 3 (.node .nilsl (lA .nilsl 22) (lA (.bool false) 22))
  false false) 17)) (.node .dead (.node .dead (fD 17) (.node .dead (.node .dead (fD 15) (.node .dead (fD 14) (lD (.cells 49 10 10 (.node (nI 5) (.node (nI 0) (.node (nU 0) (lA (nU 0)
  20) (fA 21)) (.node (nI 0) (lA .nilsl 20) (fA 21))) (.node (nI 0) (.node (nU 0) (lA (nI 0) 20) (fA 21)) (lA (.str (bs [])) 21))) true false) 13))) (fD 16))) (fD 18))) (.node .dead
  (fD 19) (.node (.cells 5 1 64 (fB 24) true false) (.node .dead (fD 17) (.node .dead (.node .dead (.node .dead (fD 14) (.node .dead (fD 13) (.node .dead (lD o1 11) (fD 12)))) (fD
  15)) (fD 16))) (fD 18))))) (.node .dead (.node .dead (.node .dead (.node (.cells 5 1 64 (fB 24) true false) (fD 18) (.node .dead (fD 17) (.node .dead (.node .dead (.node .dead (fD
  14) (.node .dead (lD o1 12) (fD 13))) (fD 15)) (fD 16)))) (.node .dead (.node .dead (fD 17) (.node .dead (.node .dead (fD 15) (.node .dead (fD 14) (lD (.cells 106 12 12 (.node (nI
  1) (.node (nI 0) (.node (nI 0) (lA (.str (bs [])) 20) (lA (nI 0) 20)) (.node (nU 0) (lA (nI 0) 20) (fA 21))) (.node (nI 0) (.node (nU 0) (lA (nU 0) 20) (fA 21)) (.node (nI 0) (lA
  .nilsl 20) (fA 21)))) true false) 13))) (fD 16))) (fD 18))) (.node .dead (fD 19) (.node .dead (.node .dead (fD 17) (.node .dead (.node .dead (.node .dead (fD 14) (.node .dead (fD
  13) (.node .dead (lD o21 11) (fD 12)))) (fD 15)) (fD 16))) (fD 18)))) (.node .dead (.node .dead (.node .dead (.node .dead (fD 17) (.node .dead (fD 16) (.node .dead (fD 15) (lD o15
  14)))) (fD 18)) (.node .dead (.node (.cells 31 10 10 (.node (.ptr 61 0) (.node (nI 1) (.node (nI 0) (lA .nil 20) (fA 21)) (.node (.bool false) (lA .nilfn 20) (fA 21))) (.node (nI
  1) (.node .nilsl (lA .nil 20) (fA 21)) (lA .nilsl 21))) true false) (.node .dead (.node .dead (fD 15) (.node .dead (fD 14) (.node .dead (fD 13) (.node .dead (fD 12) (lD (.cells 5 1
  464 (.node (nB 70) (.node (nB 65) (.node (nB 84) (.node (nB 82) (.node (nB 0) (.node (nB 255) (.node (nB 0) (.node (nB 0) (lA (nB 0) 15) (lA (nB 0) 15)) (.node (nB 0) (lA (nB 0)
  15) (lA (nB 0) 15))) (.node (nB 0) (.node (nB 0) (lA (nB 0) 15) (lA (nB 0) 15)) (.node (nB 0) (lA (nB 0) 15) (fA 16)))) (.node (nB 0) (.node (nB 0) (.node (nB 0) (lA (nB 0) 15) (lA
  (nB 0) 15)) (.node (nB 0) (lA (nB 0) 15) (lA (nB 0) 15))) (.node (nB 0) (.node (nB 0) (lA (nB 0) 15) (lA (nB 0) 15)) (.node (nB 0) (lA (nB 0) 15) (fA 16))))) (.node (nB 0) (.node
  (nB 0) (.node (nB 0) (.node (nB 0) (lA (nB 0) 15) (lA (nB 0) 15)) (.node (nB 0) (lA (nB 0) 15) (lA (nB 0) 15))) (.node (nB 0) (.node (nB 0) (lA (nB 0) 15) (lA (nB 0) 15)) (.node
  (nB 0) (lA (nB 0) 15) (fA 16)))) (.node (nB 0) (.node (nB 0) (.node (nB 0) (lA (nB 0) 15) (lA (nB 0) 15)) (.node (nB 0) (lA (nB 0) 15) (fA 16))) (.node (nB 0) (.node (nB 0) (lA (nB
  0) 15) (lA (nB 0) 15)) (.node (nB 0) (lA (nB 0) 15) (fA 16)))))) (.node (nB 0) (.node (nB 0) (.node (nB 0) (.node (nB 0) (.node (nB 0) (lA (nB 0) 15) (lA (nB 0) 15)) (.node (nB 0)
  (lA (nB 0) 15) (lA (nB 0) 15))) (.node (nB 0) (.node (nB 0) (lA (nB 0) 15) (lA (nB 0) 15)) (.node (nB 0) (lA (nB 0) 15) (fA 16)))) (.node (nB 0) (.node (nB 0) (.node (nB 0) (lA (nB
  0) 15) (lA (nB 0) 15)) (.node (nB 0) (lA (nB 0) 15) (fA 16))) (.node (nB 0) (.node (nB 0) (lA (nB 0) 15) (lA (nB 0) 15)) (.node (nB 0) (lA (nB 0) 15) (fA 16))))) (.node (nB 255)
  (.node (nB 0) (.node (nB 0) (.node (nB 0) (lA (nB 0) 15) (lA (nB 0) 15)) (.node (nB 0) (lA (nB 0) 15) (lA (nB 0) 15))) (.node (nB 0) (.node (nB 0) (lA (nB 0) 15) (lA (nB 0) 15))
  (.node (nB 0) (lA (nB 0) 15) (fA 16)))) (.node (nB 0) (.node (nB 0) (.node (nB 0) (lA (nB 0) 15) (lA (nB 0) 15)) (.node (nB 0) (lA (nB 0) 15) (fA 16))) (.node (nB 0) (.node (nB 0)
  (lA (nB 0) 15) (lA (nB 0) 15)) (.node (nB 0) (lA (nB 0) 15) (fA 16))))))) (.node (nB 65) (.node (nB 12) (.node (nB 4) (.node (nB 0) (.node (nB 0) (.node (nB 0) (lA (nB 0) 15) (lA
  (nB 0) 15)) (.node (nB 0) (lA (nB 0) 15) (lA (nB 0) 15))) (.node (nB 0) (.node (nB 0) (lA (nB 0) 15) (lA (nB 0) 15)) (.node (nB 0) (lA (nB 0) 15) (fA 16)))) (.node (nB 0) (.node
  (nB 0) (.node (nB 0) (lA (nB 0) 15) (lA (nB 0) 15)) (.node (nB 0) (lA (nB 0) 15) (fA 16))) (.node (nB 0) (.node (nB 0) (lA (nB 0) 15) (lA (nB 0) 15)) (.node (nB 0) (lA (nB 0) 15)
  (fA 16))))) (.node (nB 243) (.node (nB 0) (.node (nB 0) (.node (nB 0) (lA (nB 0) 15) (lA (nB 0) 15)) (.node (nB 0) (lA (nB 0) 15) (lA (nB 0) 15))) (.node (nB 0) (.node (nB 0) (lA
  (nB 0) 15) (lA (nB 0) 15)) (.node (nB 0) (lA (nB 0) 15) (fA 16)))) (.node (nB 0) (.node (nB 0) (.node (nB 0) (lA (nB 0) 15) (lA (nB 0) 15)) (.node (nB 0) (lA (nB 0) 15) (fA 16)))
  (.node (nB 0) (.node (nB 0) (lA (nB 0) 15) (lA (nB 0) 15)) (.node (nB 0) (lA (nB 0) 15) (fA 16)))))) (.node (nB 0) (.node (nB 0) (.node (nB 0) (.node (nB 0) (.node (nB 0) (lA (nB
  0) 15) (lA (nB 0) 15)) (.node (nB 0) (lA (nB 0) 15) (lA (nB 0) 15))) (.node (nB 0) (.node (nB 0) (lA (nB 0) 15) (lA (nB 0) 15)) (.node (nB 0) (lA (nB 0) 15) (fA 16)))) (.node (nB
  0) (.node (nB 0) (.node (nB 0) (lA (nB 0) 15) (lA (nB 0) 15)) (.node (nB 0) (lA (nB 0) 15) (fA 16))) (.node (nB 0) (.node (nB 0) (lA (nB 0) 15) (lA (nB 0) 15)) (.node (nB 0) (lA
  (nB 0) 15) (fA 16))))) (.node (nB 255) (.node (nB 0) (.node (nB 0) (.node (nB 0) (lA (nB 0) 15) (lA (nB 0) 15)) (.node (nB 0) (lA (nB 0) 15) (lA (nB 0) 15))) (.node (nB 0) (.node
  (nB 0) (lA (nB 0) 15) (lA (nB 0) 15)) (.node (nB 0) (lA (nB 0) 15) (fA 16)))) (.node (nB 0) (.node (nB 0) (.node (nB 0) (lA (nB 0) 15) (lA (nB 0) 15)) (.node (nB 0) (lA (nB 0) 15)
  (fA 16))) (.node (nB 0) (.node (nB 0) (lA (nB 0) 15) (lA (nB 0) 15)) (.node (nB 0) (lA (nB 0) 15) (fA 16)))))))) (.node (nB 83) (.node (nB 70) (.node (nB 0) (.node (nB 64) (.node
  (nB 0) (.node (nB 0) (.node (nB 0) (lA (nB 0) 15) (lA (nB 0) 15)) (.node (nB 0) (lA (nB 0) 15) (lA (nB 0) 15))) (.node (nB 0) (.node (nB 0) (lA (nB 0) 15) (lA (nB 0) 15)) (.node
  (nB 0) (lA (nB 0) 15) (fA 16)))) (.node (nB 0) (.node (nB 0) (.node (nB 0) (lA (nB 0) 15) (lA (nB 0) 15)) (.node (nB 0) (lA (nB 0) 15) (fA 16))) (.node (nB 0) (.node (nB 0) (lA (nB
  0) 15) (lA (nB 0) 15)) (.node (nB 0) (lA (nB 0) 15) (fA 16))))) (.node (nB 255) (.node (nB 0) (.node (nB 0) (.node (nB 0) (lA (nB 0) 15) (lA (nB 0) 15)) (.node (nB 0) (lA (nB 0)
  15) (lA (nB 0) 15))) (.node (nB 0) (.node (nB 0) (lA (nB 0) 15) (lA (nB 0) 15)) (.node (nB 0) (lA (nB 0) 15) (fA 16)))) (.node (nB 0) (.node (nB 0) (.node (nB 0) (lA (nB 0) 15) (lA
  (nB 0) 15)) (.node (nB 0) (lA (nB 0) 15) (fA 16))) (.node (nB 0) (.node (nB 0) (lA (nB 0) 15) (lA (nB 0) 15)) (.node (nB 0) (lA (nB 0) 15) (fA 16)))))) (.node (nB 0) (.node (nB 0)
  (.node (nB 0) (.node (nB 0) (.node (nB 0) (lA (nB 0) 15) (lA (nB 0) 15)) (.node (nB 0) (lA (nB 0) 15) (lA (nB 0) 15))) (.node (nB 0) (.node (nB 0) (lA (nB 0) 15) (lA (nB 0) 15))
  (.node (nB 0) (lA (nB 0) 15) (fA 16)))) (.node (nB 0) (.node (nB 0) (.node (nB 0) (lA (nB 0) 15) (lA (nB 0) 15)) (.node (nB 0) (lA (nB 0) 15) (fA 16))) (.node (nB 0) (.node (nB 0)
  (lA (nB 0) 15) (lA (nB 0) 15)) (.node (nB 0) (lA (nB 0) 15) (fA 16))))) (.node (nB 255) (.node (nB 0) (.node (nB 0) (.node (nB 0) (lA (nB 0) 15) (lA (nB 0) 15)) (.node (nB 0) (lA
  (nB 0) 15) (lA (nB 0) 15))) (.node (nB 0) (.node (nB 0) (lA (nB 0) 15) (lA (nB 0) 15)) (.node (nB 0) (lA (nB 0) 15) (fA 16)))) (.node (nB 0) (.node (nB 0) (.node (nB 0) (lA (nB 0)
  15) (lA (nB 0) 15)) (.node (nB 0) (lA (nB 0) 15) (fA 16))) (.node (nB 0) (.node (nB 0) (lA (nB 0) 15) (lA (nB 0) 15)) (.node (nB 0) (lA (nB 0) 15) (fA 16))))))) (.node (nB 73)
  (.node (nB 0) (.node (nB 0) (.node (nB 0) (.node (nB 0) (.node (nB 0) (lA (nB 0) 15) (lA (nB 0) 15)) (.node (nB 0) (lA (nB 0) 15) (lA (nB 0) 15))) (.node (nB 0) (.node (nB 0) (lA
  (nB 0) 15) (lA (nB 0) 15)) (.node (nB 0) (lA (nB 0) 15) (fA 16)))) (.node (nB 0) (.node (nB 0) (.node (nB 0) (lA (nB 0) 15) (lA (nB 0) 15)) (.node (nB 0) (lA (nB 0) 15) (fA 16)))
  (.node (nB 0) (.node (nB 0) (lA (nB 0) 15) (lA (nB 0) 15)) (.node (nB 0) (lA (nB 0) 15) (fA 16))))) (.node (nB 255) (.node (nB 0) (.node (nB 0) (.node (nB 0) (lA (nB 0) 15) (lA (nB
  0) 15)) (.node (nB 0) (lA (nB 0) 15) (lA (nB 0) 15))) (.node (nB 0) (.node (nB 0) (lA (nB 0) 15) (lA (nB 0) 15)) (.node (nB 0) (lA (nB 0) 15) (fA 16)))) (.node (nB 0) (.node (nB 0)
  (.node (nB 0) (lA (nB 0) 15) (lA (nB 0) 15)) (.node (nB 0) (lA (nB 0) 15) (fA 16))) (.node (nB 0) (.node (nB 0) (lA (nB 0) 15) (lA (nB 0) 15)) (.node (nB 0) (lA (nB 0) 15) (fA
  16)))))) (.node (nB 0) (.node (nB 0) (.node (nB 0) (.node (nB 0) (.node (nB 0) (lA (nB 0) 15) (lA (nB 0) 15)) (.node (nB 0) (lA (nB 0) 15) (lA (nB 0) 15))) (.node (nB 0) (.node (nB
  0) (lA (nB 0) 15) (lA (nB 0) 15)) (.node (nB 0) (lA (nB 0) 15) (fA 16)))) (.node (nB 0) (.node (nB 0) (.node (nB 0) (lA (nB 0) 15) (lA (nB 0) 15)) (.node (nB 0) (lA (nB 0) 15) (fA
  16))) (.node (nB 0) (.node (nB 0) (lA (nB 0) 15) (lA (nB 0) 15)) (.node (nB 0) (lA (nB 0) 15) (fA 16))))) (.node (nB 255) (.node (nB 0) (.node (nB 0) (.node (nB 0) (lA (nB 0) 15)
  (lA (nB 0) 15)) (.node (nB 0) (lA (nB 0) 15) (lA (nB 0) 15))) (.node (nB 0) (.node (nB 0) (lA (nB 0) 15) (lA (nB 0) 15)) (.node (nB 0) (lA (nB 0) 15) (fA 16)))) (.node (nB 0)
  (.node (nB 0) (.node (nB 0) (lA (nB 0) 15) (lA (nB 0) 15)) (.node (nB 0) (lA (nB 0) 15) (fA 16))) (.node (nB 0) (.node (nB 0) (lA (nB 0) 15) (lA (nB 0) 15)) (.node (nB 0) (lA (nB
  0) 15) (fA 16))))))))) false false) 11))))) (fD 16)) (fD 17)) (fD 18))) (.node .dead (fD 19) (.node (.cells 114 7 7 (.node (.sl 84 0 0 8 (.u 84 0)) (.node (.sl 82 0 0 8 (.u 82 0))
  (lA (nU 0) 21) (lA (nU 0) 21)) (.node (.map 60) (lA (nU 0) 21) (lA (nU 0) 21))) true false) (.node o1 (fD 17) (.node .dead (.node .dead (.node .dead (fD 14) (.node .dead (fD 13)
  (.node .dead (lD o22 11) (fD 12)))) (fD 15)) (fD 16))) (fD 18)))))) (.node .dead (.node .dead (.node .dead (.node .dead (.node .dead (.node .dead (fD 17) (lD (.cells 114 7 7 (.node
  (.sl 967 0 0 384 (.u 967 0)) (.node (.sl 965 0 0 384 (.u 965 0)) (lA (nU 384) 21) (lA (nU 0) 21)) (.node (.map 191) (lA (nU 0) 21) (lA (nU 0) 21))) true false) 16)) (.node .dead
  (fD 17) (.node .dead (.node .dead (.node .dead (fD 14) (.node .dead (lD o17 12) (.node .dead (lD o15 11) (fD 12)))) (fD 15)) (fD 16)))) (fD 19)) (.node .dead (.node .dead (.node
  .dead (fD 17) (.node .dead (fD 16) (.node .dead (fD 15) (lD o40 14)))) (fD 18)) (.node .dead (.node .dead (fD 17) (.node .dead (.node .dead (fD 15) (.node .dead (fD 14) (lD (.cells
  22 1 1 (lA (.ptr 968 0) 23) true false) 13))) (fD 16))) (fD 18)))) (.node .dead (.node .dead (.node .dead (fD 18) (lD o7 17)) (.node .dead (.node (.cells 43 1 8 (.node (nU 0)
  (.node (nU 0) (.node (nU 0) (lA (nU 0) 20) (fA 21)) (lA (nU 0) 21)) (.node (nU 0) (lA (nU 0) 21) (lA (nU 0) 21))) false false) (.node .dead (.node .dead (fD 15) (.node .dead (fD
  14) (.node .dead (fD 13) (.node .dead (fD 12) (lD (.cells 147 8 8 (.node (nB 0) (.node (nB 0) (.node (nB 0) (lA (nB 0) 20) (fA 21)) (lA (nB 0) 21)) (.node (nB 0) (lA (nB 0) 21) (lA
  (nB 0) 21))) true false) 11))))) (fD 16)) (fD 17)) (fD 18))) (.node .dead (.node .dead (.node .dead (fD 17) (.node .dead (.node .dead (.node .dead (fD 14) (.node .dead (fD 13)
  (.node .dead (fD 12) (lD (.cells 46 1 1 (lA (nU 1088) 23) false false) 11)))) (fD 15)) (fD 16))) (fD 18)) (.node (.map [] 0) (.node .dead (fD 17) (.node .dead (.node .dead (.node
  .dead (fD 14) (.node .dead (fD 13) (.node .dead (lD (.map [⟨(nI 1), (.fn (.func 33) [] []), 0⟩, ⟨(nI 2), (.fn (.func 34) [] []), 1⟩, ⟨(nI 3), (.fn (.func 35) [] []), 2⟩, ⟨(nI 4),
  (.fn (.func 36) [] []), 3⟩, ⟨(nI 5), (.fn (.func 37) [] []), 4⟩, ⟨(nI 6), (.fn (.func 38) [] []), 5⟩, ⟨(nI 7), (.fn (.func 39) [] []), 6⟩] 7) 11) (fD 12)))) (fD 15)) (fD 16))) (fD
  18))))) (.node o1 (.node .dead (.node .dead (fD 19) (.node .dead (.node (.cells 43 1 8 (.node (nU 0) (.node (nU 0) (.node (nU 0) (lA (nU 0) 20) (fA 21)) (lA (nU 0) 21)) (.node (nU
  0) (lA (nU 0) 21) (lA (nU 0) 21))) false false) (fD 17) (.node .dead (.node .dead (fD 15) (.node .dead (fD 14) (lD (.cells 106 12 12 (.node (nI 1) (.node (nI 0) (.node (nI 0) (lA
  (.str (bs [])) 20) (lA (nI 0) 20)) (.node (nU 0) (lA (nI 0) 20) (fA 21))) (.node (nI 0) (.node (nU 0) (lA (nU 0) 20) (fA 21)) (.node (nI 0) (lA .nilsl 20) (fA 21)))) true false)
  13))) (fD 16))) (fD 18))) (.node .dead (fD 19) (.node .dead (.node .dead (fD 17) (.node .dead (.node .dead (.node .dead (fD 14) (.node .dead (fD 13) (.node .dead (lD (.cells 49 10
  10 (.node (nI 7) (.node (nI 0) (.node (nU 0) (lA (nU 0) 20) (fA 21)) (.node (nI 0) (lA .nilsl 20) (fA 21))) (.node (nI 0) (.node (nU 0) (lA (nI 0) 20) (fA 21)) (lA (.str (bs []))
  21))) true false) 11) (fD 12)))) (.node .dead (fD 14) (lD o41 13))) (fD 16))) (fD 18)))) (.node .dead (fD 20) (.node .dead (fD 19) (.node .dead (.node .dead (fD 17) (.node .dead
  (.node .dead (.node .dead (fD 14) (.node .dead (lD o19 12) (.node .dead (lD (.cells 49 10 10 (.node (nI 7) (.node (nI 0) (.node (nU 0) (lA (nU 0) 20) (fA 21)) (.node (nI 0) (lA
  .nilsl 20) (fA 21))) (.node (nI 0) (.node (nU 0) (lA (nI 0) 20) (fA 21)) (lA (.str (bs [])) 21))) true false) 11) (fD 12)))) (fD 15)) (fD 16))) (fD 18))))))), 7959⟩,
  [.reg (opsAt
  Tryz.f170 [1, 1, 0, 1, 0, 0, 1, 1, 0, 0, 1, 0]) ((opsAt Tryz.f170 [1, 1, 0, 1, 0, 0, 1, 1, 0, 0, 1, 0]).toList.drop 2), .code (codeAt Tryz.f170 [1, 1, 0, 1, 0, 0, 1, 1, 0, 0, 1,
  1]), .blk 1, .code (codeAt Tryz.f170 [1, 1, 0, 1, 0, 0, 1, 1, 1]), .lp (codeAt Tryz.f170 [1, 1, 0, 1, 0, 0]), .blk 0, .code (codeAt Tryz.f170 [1, 1, 1])]⟩
/-- where the run stands at the end of part 20 -/
noncomputable def s20 : St :=
  ⟨⟨56, 15, [], .normal, none,
  [⟨170, 20, [], .normal, none, .run, (.node (.sl 5728 0 0 384 (.u 5728 0)) (.node undefV (.node (.sl 8338 0 0 1480 (.u 8338 0)) (.node (.sl 5728 0 0
  384 (.u 5728 0)) (lU (.sl 8335 0 0 1472 (.u 8335 0)) 19) (fU 20)) (lU (.ptr 5728 185) 20)) (.node (nU 0) (.node (nI 185) (lU (.sl 8338 0 0 1480 (.u 8338 0)) 19) (fU 20)) (lU (nU 0)
  20))) (.node .nilsl (.node undefV (.node (nI 384) (lU (.sl 8337 0 0 8 (.k 8)) 19) (fU 20)) (lU (nU 0) 20)) (.node (.ptr 8337 0) (.node (.bool true) (lU (nI 185) 19) (fU 20)) (lU
  (.agg [(nB 0), (nB 0), (nB 0), (nB 0), (nB 0), (nB 0), (nB 0), (nB 0)]) 20)))), [.reg (opsAt Tryz.f170 [1, 1, 0, 1, 0, 0, 1, 1, 0, 0, 1, 0]) ((opsAt Tryz.f170 [1, 1, 0, 1, 0, 0, 1,
  1, 0, 0, 1, 0]).toList.drop 1), .code (codeAt Tryz.f170 [1, 1, 0, 1, 0, 0, 1, 1, 0, 0, 1, 1]), .blk 1, .code (codeAt Tryz.f170 [1, 1, 0, 1, 0, 0, 1, 1, 1]), .lp (codeAt Tryz.f170
  [1, 1, 0, 1, 0, 0]), .blk 0, .code (codeAt Tryz.f170 [1, 1, 1])]⟩,
    o24,
    o42,
    o43,
    o27,
    o30,
    o28,
    o18,
    o16,
    o6]⟩,
  .run,
  (.node (nU 0) (.node
  undefV (.node (nI 5) (lU (nI 5) 20) (lU (nU 0) 20)) (.node (.bool true) (lU (nB 0) 20) (lU (nI 6) 20))) (.node (.ptr 8339 0) (.node (nI 6) (lU (nU 0) 20) (lU (nU 0) 20)) (.node (nI
  5) (lU (.ptr 8339 5) 20) (fU 21)))),
  ⟨(.node (.cells 31 10 10 (.node .nil (.node (nI 0) (.node (nI 0) (lA .nil 20) (fA 21)) (.node (.bool false) (lA .nilfn 20) (fA 21))) (.node
  (nI 0) (.node .nilsl (lA .nil 20) (fA 21)) (lA .nilsl 21))) true false) (.node .dead (.node o1 (.node (.cells 5 1 64 (fB 24) true false) (.node .dead (.node .dead (.node .dead (fD
  17) (lD (.map [] 0) 16)) (.node .dead (fD 17) (.node .dead (.node .dead (.node .dead (fD 14) (.node .dead (lD (.cells 167 1 1 (lA (.ptr 1882 0) 23) true false) 12) (fD 13))) (fD
  15)) (fD 16)))) (fD 19)) (.node .dead (.node .dead (.node .dead (fD 17) (.node .dead (fD 16) (.node .dead (fD 15) (lD o15 14)))) (fD 18)) (fD 19))) (.node .dead (.node .dead (.node
  .dead (fD 18) (lD (.cells 99 3 3 (.node .nilsl (lA .nilsl 22) (lA (.bool false) 22)) false false) 17)) (.node .dead (.node .dead (.node .dead (fD 16) (.node .dead (.node .dead
  (.node .dead (.node .dead (.node .dead (lD (.cells 147 8 8 (.node (nB 0) (.node (nB 0) (.node (nB 0) (lA (nB 0) 20) (fA 21)) (lA (nB 0) 21)) (.node (nB 0) (lA (nB 0) 21) (lA (nB 0)
  21))) true false) 10) (fD 11)) (fD 12)) (fD 13)) (fD 14)) (fD 15))) (.node .dead (.node .dead (fD 15) (.node .dead (fD 14) (lD (.cells 49 10 10 (.node (nI 5) (.node (nI 0) (.node
  (nU 0) (lA (nU 0) 20) (fA 21)) (.node (nI 0) (lA .nilsl 20) (fA 21))) (.node (nI 0) (.node (nU 0) (lA (nI 0) 20) (fA 21)) (lA (.str (bs [])) 21))) true false) 13))) (fD 16))) (fD
  18))) (.node .dead (fD 19) (.node (.cells 5 1 64 (fB 24) true false) (.node .dead (fD 17) (.node .dead (.node .dead (.node .dead (fD 14) (.node .dead (fD 13) (.node .dead (lD o1
  11) (fD 12)))) (fD 15)) (fD 16))) (fD 18))))) (.node .dead (.node .dead (.node .dead (.node (.cells 5 1 64 (fB 24) true false) (fD 18) (.node .dead (fD 17) (.node .dead (.node
  .dead (.node .dead (fD 14) (.node .dead (lD o1 12) (fD 13))) (fD 15)) (fD 16)))) (.node .dead (.node .dead (.node .dead (fD 16) (.node .dead (.node .dead (.node .dead (.node .dead
  (.node .dead (lD (.cells 147 8 8 (.node (nB 0) (.node (nB 0) (.node (nB 0) (lA (nB 0) 20) (fA 21)) (lA (nB 0) 21)) (.node (nB 0) (lA (nB 0) 21) (lA (nB 0) 21))) true false) 10) (fD
  11)) (fD 12)) (fD 13)) (fD 14)) (fD 15))) (.node .dead (.node .dead (fD 15) (.node .dead (fD 14) (lD (.cells 106 12 12 (.node (nI 1) (.node (nI 0) (.node (nI 0) (lA (.str (bs []))
  20) (lA (nI 0) 20)) (.node (nU 0) (lA (nI 0) 20) (fA 21))) (.node (nI 0) (.node (nU 0) (lA (nU 0) 20) (fA 21)) (.node (nI 0) (lA .nilsl 20) (fA 21)))) true false) 13))) (fD 16)))
  (fD 18))) (.node .dead (fD 19) (.node .dead (.node .dead (fD 17) (.node .dead (.node .dead (.node .dead (fD 14) (.node .dead (fD 13) (.node .dead (lD o21 11) (fD 12)))) (fD 15))
  (fD 16))) (fD 18)))) (.node .dead (.node .dead (.node .dead (.node .dead (fD 17) (.node .dead (fD 16) (.node .dead (fD 15) (lD o15 14)))) (fD 18)) (.node .dead (lD (.cells 31 10 10
  (.node (.ptr 61 0) (.node (nI 1) (.node (nI 0) (lA .nil 20) (fA 21)) (.node (.bool false) (lA .nilfn 20) (fA 21))) (.node (nI 1) (.node .nilsl (lA .nil 20) (fA 21)) (lA .nilsl
  21))) true false) 17) (fD 18))) (.node .dead (fD 19) (.node (.cells 114 7 7 (.node (.sl 84 0 0 8 (.u 84 0)) (.node (.sl 82 0 0 8 (.u 82 0)) (lA (nU 0) 21) (lA (nU 0) 21)) (.node
  (.map 60) (lA (nU 0) 21) (lA (nU 0) 21))) true false) (.node o1 (fD 17) (.node .dead (.node .dead (.node .dead (fD 14) (.node .dead (fD 13) (.node .dead (lD o22 11) (fD 12)))) (fD
  15)) (fD 16))) (fD 18)))))) (.node .dead (.node .dead (.node .dead (.node .dead (.node .dead (.node .dead (fD 17) (lD (.cells 114 7 7 (.node (.sl 967 0 0 384 (.u 967 0)) (.node
  (.sl 965 0 0 384 (.u 965 0)) (lA (nU 384) 21) (lA (nU 0) 21)) (.node (.map 191) (lA (nU 0) 21) (lA (nU 0) 21))) true false) 16)) (.node .dead (fD 17) (.node .dead (.node .dead
  (.node .dead (fD 14) (.node .dead (lD o17 12) (.node .dead (lD o15 11) (fD 12)))) (fD 15)) (fD 16)))) (fD 19)) (.node .dead (.node .dead (.node .dead (fD 17) (.node .dead (fD 16)
  (.node .dead (fD 15) (lD o40 14)))) (fD 18)) (.node .dead (.node .dead (fD 17) (.node .dead (.node .dead (fD 15) (.node .dead (fD 14) (lD (.cells 22 1 1 (lA (.ptr 968 0) 23) true
  false) 13))) (fD 16))) (fD 18)))) (.node .dead (.node .dead (.node .dead (fD 18) (lD o7 17)) (.node .dead (lD (.cells 43 1 8 (.node (nU 0) (.node (nU 0) (.node (nU 0) (lA (nU 0)
  20) (fA 21)) (lA (nU 0) 21)) (.node (nU 0) (lA (nU 0) 21) (lA (nU 0) 21))) false false) 17) (fD 18))) (.node .dead (.node .dead (.node .dead (fD 17) (.node .dead (.node .dead
  (.node .dead (fD 14) (.node .dead (fD 13) (.node .dead (fD 12) (lD (.cells 46 1 1 (lA (nU 1088) 23) false false) 11)))) (fD 15)) (fD 16))) (fD 18)) (.node (.map [] 0) (.node .dead
  (fD 17) (.node .dead (.node .dead (.node .dead (fD 14) (.node .dead (fD 13) (.node .dead (lD (.map [⟨(nI 1), (.fn (.func 33) [] []), 0⟩, ⟨(nI 2), (.fn (.func 34) [] []), 1⟩, ⟨(nI
  3), (.fn (.func 35) [] []), 2⟩, ⟨(nI 4), (.fn (.func 36) [] []), 3⟩, ⟨(nI 5), (.fn (.func 37) [] []), 4⟩, ⟨(nI 6), (.fn (.func 38) [] []), 5⟩, ⟨(nI 7), (.fn (.func 39) [] []), 6⟩]
  7) 11) (fD 12)))) (fD 15)) (fD 16))) (fD 18))))) (.node o1 (.node .dead (.node .dead (fD 19) (.node .dead (.node (.cells 43 1 8 (.node (nU 0) (.node (nU 0) (.node (nU 0) (lA (nU 0)
  20) (fA 21)) (lA (nU 0) 21)) (.node (nU 0) (lA (nU 0) 21) (lA (nU 0) 21))) false false) (.node .dead (fD 16) (.node .dead (.node .dead (.node .dead (.node .dead (.node .dead (lD
  (.cells 5 1 1480 (.node (nB 70) (.node (nB 65) (.node (nB 84) (.node (nB 82) (.node (nB 0) (.node (nB 255) (.node (nB 0) (.node (nB 0) (.node (nB 0) (.node (nB 0) (lA (nB 0) 13)
  (fA 14)) (.node (nB 0) (lA (nB 0) 13) (fA 14))) (.node (nB 0) (.node (nB 0) (lA (nB 0) 13) (fA 14)) (.node (nB 0) (lA (nB 0) 13) (fA 14)))) (.node (nB 0) (.node (nB 0) (.node (nB
  0) (lA (nB 0) 13) (fA 14)) (.node (nB 0) (lA (nB 0) 13) (fA 14))) (.node (nB 0) (.node (nB 0) (lA (nB 0) 13) (fA 14)) (.node (nB 0) (lA (nB 0) 13) (fA 14))))) (.node (nB 0) (.node
  (nB 0) (.node (nB 0) (.node (nB 0) (lA (nB 0) 13) (fA 14)) (.node (nB 0) (lA (nB 0) 13) (fA 14))) (.node (nB 0) (.node (nB 0) (lA (nB 0) 13) (fA 14)) (.node (nB 0) (lA (nB 0) 13)
  (fA 14)))) (.node (nB 0) (.node (nB 0) (.node (nB 0) (lA (nB 0) 13) (fA 14)) (.node (nB 0) (lA (nB 0) 13) (fA 14))) (.node (nB 0) (.node (nB 0) (lA (nB 0) 13) (fA 14)) (lA (nB 0)
  14))))) (.node (nB 0) (.node (nB 0) (.node (nB 0) (.node (nB 0) (.node (nB 0) (lA (nB 0) 13) (fA 14)) (.node (nB 0) (lA (nB 0) 13) (fA 14))) (.node (nB 0) (.node (nB 0) (lA (nB 0)
  13) (fA 14)) (.node (nB 0) (lA (nB 0) 13) (fA 14)))) (.node (nB 0) (.node (nB 0) (.node (nB 0) (lA (nB 0) 13) (fA 14)) (.node (nB 0) (lA (nB 0) 13) (fA 14))) (.node (nB 0) (.node
  (nB 0) (lA (nB 0) 13) (fA 14)) (lA (nB 0) 14)))) (.node (nB 0) (.node (nB 0) (.node (nB 0) (.node (nB 0) (lA (nB 0) 13) (fA 14)) (.node (nB 0) (lA (nB 0) 13) (fA 14))) (.node (nB
  0) (.node (nB 0) (lA (nB 0) 13) (fA 14)) (.node (nB 0) (lA (nB 0) 13) (fA 14)))) (.node (nB 0) (.node (nB 0) (.node (nB 0) (lA (nB 0) 13) (fA 14)) (.node (nB 0) (lA (nB 0) 13) (fA
  14))) (.node (nB 0) (.node (nB 0) (lA (nB 0) 13) (fA 14)) (lA (nB 0) 14)))))) (.node (nB 0) (.node (nB 0) (.node (nB 0) (.node (nB 0) (.node (nB 0) (.node (nB 0) (lA (nB 0) 13) (fA
  14)) (.node (nB 0) (lA (nB 0) 13) (fA 14))) (.node (nB 0) (.node (nB 0) (lA (nB 0) 13) (fA 14)) (.node (nB 0) (lA (nB 0) 13) (fA 14)))) (.node (nB 0) (.node (nB 0) (.node (nB 0)
  (lA (nB 76) 13) (fA 14)) (.node (nB 0) (lA (nB 0) 13) (fA 14))) (.node (nB 0) (.node (nB 0) (lA (nB 0) 13) (fA 14)) (.node (nB 0) (lA (nB 0) 13) (fA 14))))) (.node (nB 0) (.node
  (nB 0) (.node (nB 0) (.node (nB 0) (lA (nB 0) 13) (fA 14)) (.node (nB 0) (lA (nB 0) 13) (fA 14))) (.node (nB 0) (.node (nB 0) (lA (nB 0) 13) (fA 14)) (.node (nB 0) (lA (nB 0) 13)
  (fA 14)))) (.node (nB 0) (.node (nB 0) (.node (nB 0) (lA (nB 0) 13) (fA 14)) (.node (nB 0) (lA (nB 0) 13) (fA 14))) (.node (nB 0) (.node (nB 0) (lA (nB 0) 13) (fA 14)) (lA (nB 0)
  14))))) (.node (nB 0) (.node (nB 0) (.node (nB 0) (.node (nB 0) (.node (nB 0) (lA (nB 0) 13) (fA 14)) (.node (nB 0) (lA (nB 0) 13) (fA 14))) (.node (nB 0) (.node (nB 0) (lA (nB 0)
  13) (fA 14)) (.node (nB 0) (lA (nB 0) 13) (fA 14)))) (.node (nB 0) (.node (nB 0) (.node (nB 0) (lA (nB 0) 13) (fA 14)) (.node (nB 0) (lA (nB 0) 13) (fA 14))) (.node (nB 0) (.node
  (nB 0) (lA (nB 0) 13) (fA 14)) (lA (nB 0) 14)))) (.node (nB 0) (.node (nB 0) (.node (nB 0) (.node (nB 0) (lA (nB 0) 13) (fA 14)) (.node (nB 0) (lA (nB 0) 13) (fA 14))) (.node (nB
  0) (.node (nB 0) (lA (nB 0) 13) (fA 14)) (.node (nB 0) (lA (nB 0) 13) (fA 14)))) (.node (nB 0) (.node (nB 0) (.node (nB 0) (lA (nB 0) 13) (fA 14)) (.node (nB 0) (lA (nB 0) 13) (fA
  14))) (.node (nB 0) (.node (nB 0) (lA (nB 0) 13) (fA 14)) (lA (nB 0) 14))))))) (.node (nB 0) (.node (nB 0) (.node (nB 0) (.node (nB 0) (.node (nB 0) (.node (nB 0) (.node (nB 0) (lA
  (nB 0) 13) (fA 14)) (.node (nB 0) (lA (nB 0) 13) (fA 14))) (.node (nB 0) (.node (nB 0) (lA (nB 0) 13) (fA 14)) (.node (nB 0) (lA (nB 0) 13) (fA 14)))) (.node (nB 0) (.node (nB 0)
  (.node (nB 0) (lA (nB 69) 13) (fA 14)) (.node (nB 0) (lA (nB 0) 13) (fA 14))) (.node (nB 0) (.node (nB 0) (lA (nB 0) 13) (fA 14)) (.node (nB 0) (lA (nB 0) 13) (fA 14))))) (.node
  (nB 0) (.node (nB 0) (.node (nB 0) (.node (nB 0) (lA (nB 0) 13) (fA 14)) (.node (nB 0) (lA (nB 0) 13) (fA 14))) (.node (nB 0) (.node (nB 0) (lA (nB 0) 13) (fA 14)) (.node (nB 0)
  (lA (nB 0) 13) (fA 14)))) (.node (nB 0) (.node (nB 0) (.node (nB 0) (lA (nB 0) 13) (fA 14)) (.node (nB 0) (lA (nB 0) 13) (fA 14))) (.node (nB 0) (.node (nB 0) (lA (nB 0) 13) (fA
  14)) (lA (nB 0) 14))))) (.node (nB 0) (.node (nB 0) (.node (nB 0) (.node (nB 0) (.node (nB 0) (lA (nB 0) 13) (fA 14)) (.node (nB 0) (lA (nB 0) 13) (fA 14))) (.node (nB 0) (.node
  (nB 0) (lA (nB 0) 13) (fA 14)) (.node (nB 0) (lA (nB 0) 13) (fA 14)))) (.node (nB 0) (.node (nB 0) (.node (nB 0) (lA (nB 0) 13) (fA 14)) (.node (nB 0) (lA (nB 0) 13) (fA 14)))
  (.node (nB 0) (.node (nB 0) (lA (nB 0) 13) (fA 14)) (lA (nB 0) 14)))) (.node (nB 0) (.node (nB 0) (.node (nB 0) (.node (nB 0) (lA (nB 0) 13) (fA 14)) (.node (nB 0) (lA (nB 0) 13)
  (fA 14))) (.node (nB 0) (.node (nB 0) (lA (nB 0) 13) (fA 14)) (.node (nB 0) (lA (nB 0) 13) (fA 14)))) (.node (nB 0) (.node (nB 0) (.node (nB 0) (lA (nB 0) 13) (fA 14)) (.node (nB
  0) (lA (nB 0) 13) (fA 14))) (.node (nB 0) (.node (nB 0) (lA (nB 0) 13) (fA 14)) (lA (nB 0) 14)))))) (.node (nB 255) (.node (nB 0) (.node (nB 0) (.node (nB 0) (.node (nB 0) (.node
  (nB 0) (lA (nB 0) 13) (fA 14)) (.node (nB 0) (lA (nB 0) 13) (fA 14))) (.node (nB 0) (.node (nB 0) (lA (nB 0) 13) (fA 14)) (.node (nB 0) (lA (nB 0) 13) (fA 14)))) (.node (nB 0)
  (.node (nB 0) (.node (nB 0) (lA (nB 0) 13) (fA 14)) (.node (nB 0) (lA (nB 0) 13) (fA 14))) (.node (nB 0) (.node (nB 0) (lA (nB 0) 13) (fA 14)) (lA (nB 0) 14)))) (.node (nB 0)
  (.node (nB 0) (.node (nB 0) (.node (nB 0) (lA (nB 0) 13) (fA 14)) (.node (nB 0) (lA (nB 0) 13) (fA 14))) (.node (nB 0) (.node (nB 0) (lA (nB 0) 13) (fA 14)) (.node (nB 0) (lA (nB
  0) 13) (fA 14)))) (.node (nB 0) (.node (nB 0) (.node (nB 0) (lA (nB 0) 13) (fA 14)) (.node (nB 0) (lA (nB 0) 13) (fA 14))) (.node (nB 0) (.node (nB 0) (lA (nB 0) 13) (fA 14)) (lA
  (nB 0) 14))))) (.node (nB 0) (.node (nB 0) (.node (nB 0) (.node (nB 0) (.node (nB 0) (lA (nB 0) 13) (fA 14)) (.node (nB 0) (lA (nB 0) 13) (fA 14))) (.node (nB 0) (.node (nB 0) (lA
  (nB 0) 13) (fA 14)) (.node (nB 0) (lA (nB 0) 13) (fA 14)))) (.node (nB 0) (.node (nB 0) (.node (nB 0) (lA (nB 0) 13) (fA 14)) (.node (nB 0) (lA (nB 0) 13) (fA 14))) (.node (nB 0)
  (.node (nB 0) (lA (nB 0) 13) (fA 14)) (lA (nB 0) 14)))) (.node (nB 0) (.node (nB 0) (.node (nB 0) (.node (nB 0) (lA (nB 0) 13) (fA 14)) (.node (nB 0) (lA (nB 0) 13) (fA 14)))
  (.node (nB 0) (.node (nB 0) (lA (nB 0) 13) (fA 14)) (.node (nB 0) (lA (nB 0) 13) (fA 14)))) (.node (nB 0) (.node (nB 0) (.node (nB 0) (lA (nB 0) 13) (fA 14)) (.node (nB 0) (lA (nB
  0) 13) (fA 14))) (.node (nB 0) (.node (nB 0) (lA (nB 0) 13) (fA 14)) (lA (nB 0) 14)))))))) (.node (nB 65) (.node (nB 12) (.node (nB 4) (.node (nB 0) (.node (nB 0) (.node (nB 0)
  (.node (nB 0) (.node (nB 0) (lA (nB 0) 13) (fA 14)) (.node (nB 0) (lA (nB 0) 13) (fA 14))) (.node (nB 0) (.node (nB 0) (lA (nB 0) 13) (fA 14)) (.node (nB 0) (lA (nB 0) 13) (fA
  14)))) (.node (nB 0) (.node (nB 0) (.node (nB 0) (lA (nB 0) 13) (fA 14)) (.node (nB 0) (lA (nB 0) 13) (fA 14))) (.node (nB 0) (.node (nB 0) (lA (nB 0) 13) (fA 14)) (.node (nB 0)
  (lA (nB 0) 13) (fA 14))))) (.node (nB 0) (.node (nB 0) (.node (nB 0) (.node (nB 0) (lA (nB 0) 13) (fA 14)) (.node (nB 0) (lA (nB 0) 13) (fA 14))) (.node (nB 0) (.node (nB 0) (lA
  (nB 0) 13) (fA 14)) (.node (nB 0) (lA (nB 0) 13) (fA 14)))) (.node (nB 0) (.node (nB 0) (.node (nB 0) (lA (nB 4) 13) (fA 14)) (.node (nB 0) (lA (nB 0) 13) (fA 14))) (.node (nB 0)
  (.node (nB 0) (lA (nB 0) 13) (fA 14)) (lA (nB 0) 14))))) (.node (nB 0) (.node (nB 0) (.node (nB 0) (.node (nB 0) (.node (nB 0) (lA (nB 0) 13) (fA 14)) (.node (nB 0) (lA (nB 0) 13)
  (fA 14))) (.node (nB 0) (.node (nB 0) (lA (nB 0) 13) (fA 14)) (.node (nB 0) (lA (nB 0) 13) (fA 14)))) (.node (nB 0) (.node (nB 0) (.node (nB 0) (lA (nB 0) 13) (fA 14)) (.node (nB
  0) (lA (nB 0) 13) (fA 14))) (.node (nB 0) (.node (nB 0) (lA (nB 0) 13) (fA 14)) (lA (nB 0) 14)))) (.node (nB 0) (.node (nB 0) (.node (nB 0) (.node (nB 0) (lA (nB 0) 13) (fA 14))
  (.node (nB 0) (lA (nB 0) 13) (fA 14))) (.node (nB 0) (.node (nB 0) (lA (nB 0) 13) (fA 14)) (.node (nB 0) (lA (nB 0) 13) (fA 14)))) (.node (nB 0) (.node (nB 0) (.node (nB 0) (lA (nB
  0) 13) (fA 14)) (.node (nB 0) (lA (nB 0) 13) (fA 14))) (.node (nB 0) (.node (nB 0) (lA (nB 0) 13) (fA 14)) (lA (nB 0) 14)))))) (.node (nB 243) (.node (nB 0) (.node (nB 0) (.node
  (nB 0) (.node (nB 0) (.node (nB 0) (lA (nB 0) 13) (fA 14)) (.node (nB 0) (lA (nB 0) 13) (fA 14))) (.node (nB 0) (.node (nB 0) (lA (nB 0) 13) (fA 14)) (.node (nB 0) (lA (nB 0) 13)
  (fA 14)))) (.node (nB 0) (.node (nB 0) (.node (nB 0) (lA (nB 0) 13) (fA 14)) (.node (nB 0) (lA (nB 0) 13) (fA 14))) (.node (nB 0) (.node (nB 0) (lA (nB 0) 13) (fA 14)) (lA (nB 0)
  14)))) (.node (nB 0) (.node (nB 0) (.node (nB 0) (.node (nB 0) (lA (nB 0) 13) (fA 14)) (.node (nB 0) (lA (nB 0) 13) (fA 14))) (.node (nB 0) (.node (nB 0) (lA (nB 0) 13) (fA 14))
  (.node (nB 0) (lA (nB 0) 13) (fA 14)))) (.node (nB 0) (.node (nB 0) (.node (nB 0) (lA (nB 0) 13) (fA 14)) (.node (nB 0) (lA (nB 0) 13) (fA 14))) (.node (nB 0) (.node (nB 0) (lA (nB
  0) 13) (fA 14)) (lA (nB 0) 14))))) (.node (nB 0) (.node (nB 0) (.node (nB 0) (.node (nB 0) (.node (nB 0) (lA (nB 0) 13) (fA 14)) (.node (nB 0) (lA (nB 0) 13) (fA 14))) (.node (nB
  0) (.node (nB 0) (lA (nB 0) 13) (fA 14)) (.node (nB 0) (lA (nB 0) 13) (fA 14)))) (.node (nB 0) (.node (nB 0) (.node (nB 0) (lA (nB 0) 13) (fA 14)) (.node (nB 0) (lA (nB 0) 13) (fA
  14))) (.node (nB 0) (.node (nB 0) (lA (nB 0) 13) (fA 14)) (lA (nB 0) 14)))) (.node (nB 0) (.node (nB 0) (.node (nB 0) (.node (nB 0) (lA (nB 0) 13) (fA 14)) (.node (nB 0) (lA (nB 0)
  13) (fA 14))) (.node (nB 0) (.node (nB 0) (lA (nB 0) 13) (fA 14)) (.node (nB 0) (lA (nB 0) 13) (fA 14)))) (.node (nB 0) (.node (nB 0) (.node (nB 0) (lA (nB 0) 13) (fA 14)) (.node
  (nB 0) (lA (nB 0) 13) (fA 14))) (.node (nB 0) (.node (nB 0) (lA (nB 0) 13) (fA 14)) (lA (nB 0) 14))))))) (.node (nB 0) (.node (nB 0) (.node (nB 0) (.node (nB 0) (.node (nB 0)
  (.node (nB 0) (.node (nB 0) (lA (nB 0) 13) (fA 14)) (.node (nB 0) (lA (nB 0) 13) (fA 14))) (.node (nB 0) (.node (nB 0) (lA (nB 0) 13) (fA 14)) (.node (nB 0) (lA (nB 0) 13) (fA
  14)))) (.node (nB 0) (.node (nB 0) (.node (nB 0) (lA (nB 86) 13) (fA 14)) (.node (nB 0) (lA (nB 0) 13) (fA 14))) (.node (nB 0) (.node (nB 0) (lA (nB 0) 13) (fA 14)) (.node (nB 0)
  (lA (nB 0) 13) (fA 14))))) (.node (nB 0) (.node (nB 0) (.node (nB 0) (.node (nB 0) (lA (nB 0) 13) (fA 14)) (.node (nB 0) (lA (nB 0) 13) (fA 14))) (.node (nB 0) (.node (nB 0) (lA
  (nB 0) 13) (fA 14)) (.node (nB 0) (lA (nB 0) 13) (fA 14)))) (.node (nB 0) (.node (nB 0) (.node (nB 0) (lA (nB 0) 13) (fA 14)) (.node (nB 0) (lA (nB 0) 13) (fA 14))) (.node (nB 0)
  (.node (nB 0) (lA (nB 0) 13) (fA 14)) (lA (nB 0) 14))))) (.node (nB 0) (.node (nB 0) (.node (nB 0) (.node (nB 0) (.node (nB 0) (lA (nB 0) 13) (fA 14)) (.node (nB 0) (lA (nB 0) 13)
  (fA 14))) (.node (nB 0) (.node (nB 0) (lA (nB 0) 13) (fA 14)) (.node (nB 0) (lA (nB 0) 13) (fA 14)))) (.node (nB 0) (.node (nB 0) (.node (nB 0) (lA (nB 0) 13) (fA 14)) (.node (nB
  0) (lA (nB 0) 13) (fA 14))) (.node (nB 0) (.node (nB 0) (lA (nB 0) 13) (fA 14)) (lA (nB 0) 14)))) (.node (nB 0) (.node (nB 0) (.node (nB 0) (.node (nB 0) (lA (nB 0) 13) (fA 14))
  (.node (nB 0) (lA (nB 0) 13) (fA 14))) (.node (nB 0) (.node (nB 0) (lA (nB 0) 13) (fA 14)) (.node (nB 0) (lA (nB 0) 13) (fA 14)))) (.node (nB 0) (.node (nB 0) (.node (nB 0) (lA (nB
  0) 13) (fA 14)) (.node (nB 0) (lA (nB 0) 13) (fA 14))) (.node (nB 0) (.node (nB 0) (lA (nB 0) 13) (fA 14)) (lA (nB 0) 14)))))) (.node (nB 255) (.node (nB 0) (.node (nB 0) (.node
  (nB 0) (.node (nB 0) (.node (nB 0) (lA (nB 0) 13) (fA 14)) (.node (nB 0) (lA (nB 0) 13) (fA 14))) (.node (nB 0) (.node (nB 0) (lA (nB 0) 13) (fA 14)) (.node (nB 0) (lA (nB 0) 13)
  (fA 14)))) (.node (nB 0) (.node (nB 0) (.node (nB 0) (lA (nB 0) 13) (fA 14)) (.node (nB 0) (lA (nB 0) 13) (fA 14))) (.node (nB 0) (.node (nB 0) (lA (nB 0) 13) (fA 14)) (lA (nB 0)
  14)))) (.node (nB 0) (.node (nB 0) (.node (nB 0) (.node (nB 0) (lA (nB 0) 13) (fA 14)) (.node (nB 0) (lA (nB 0) 13) (fA 14))) (.node (nB 0) (.node (nB 0) (lA (nB 0) 13) (fA 14))
  (.node (nB 0) (lA (nB 0) 13) (fA 14)))) (.node (nB 0) (.node (nB 0) (.node (nB 0) (lA (nB 0) 13) (fA 14)) (.node (nB 0) (lA (nB 0) 13) (fA 14))) (.node (nB 0) (.node (nB 0) (lA (nB
  0) 13) (fA 14)) (lA (nB 0) 14))))) (.node (nB 0) (.node (nB 0) (.node (nB 0) (.node (nB 0) (.node (nB 0) (lA (nB 0) 13) (fA 14)) (.node (nB 0) (lA (nB 0) 13) (fA 14))) (.node (nB
  0) (.node (nB 0) (lA (nB 0) 13) (fA 14)) (.node (nB 0) (lA (nB 0) 13) (fA 14)))) (.node (nB 0) (.node (nB 0) (.node (nB 0) (lA (nB 0) 13) (fA 14)) (.node (nB 0) (lA (nB 0) 13) (fA
  14))) (.node (nB 0) (.node (nB 0) (lA (nB 0) 13) (fA 14)) (lA (nB 0) 14)))) (.node (nB 0) (.node (nB 0) (.node (nB 0) (.node (nB 0) (lA (nB 0) 13) (fA 14)) (.node (nB 0) (lA (nB 0)
  13) (fA 14))) (.node (nB 0) (.node (nB 0) (lA (nB 0) 13) (fA 14)) (.node (nB 0) (lA (nB 0) 13) (fA 14)))) (.node (nB 0) (.node (nB 0) (.node (nB 0) (lA (nB 0) 13) (fA 14)) (.node
  (nB 0) (lA (nB 0) 13) (fA 14))) (.node (nB 0) (.node (nB 0) (lA (nB 0) 13) (fA 14)) (lA (nB 0) 14))))))))) (.node (nB 83) (.node (nB 70) (.node (nB 0) (.node (nB 64) (.node (nB 0)
  (.node (nB 0) (.node (nB 0) (.node (nB 0) (.node (nB 0) (lA (nB 3) 13) (fA 14)) (.node (nB 0) (lA (nB 0) 13) (fA 14))) (.node (nB 0) (.node (nB 0) (lA (nB 0) 13) (fA 14)) (.node
  (nB 0) (lA (nB 0) 13) (fA 14)))) (.node (nB 0) (.node (nB 0) (.node (nB 0) (lA (nB 0) 13) (fA 14)) (.node (nB 0) (lA (nB 0) 13) (fA 14))) (.node (nB 0) (.node (nB 0) (lA (nB 0) 13)
  (fA 14)) (.node (nB 0) (lA (nB 0) 13) (fA 14))))) (.node (nB 0) (.node (nB 0) (.node (nB 0) (.node (nB 0) (lA (nB 0) 13) (fA 14)) (.node (nB 0) (lA (nB 0) 13) (fA 14))) (.node (nB
  0) (.node (nB 0) (lA (nB 0) 13) (fA 14)) (.node (nB 0) (lA (nB 0) 13) (fA 14)))) (.node (nB 0) (.node (nB 0) (.node (nB 0) (lA (nB 64) 13) (fA 14)) (.node (nB 0) (lA (nB 0) 13) (fA
  14))) (.node (nB 0) (.node (nB 0) (lA (nB 0) 13) (fA 14)) (lA (nB 0) 14))))) (.node (nB 0) (.node (nB 0) (.node (nB 0) (.node (nB 0) (.node (nB 0) (lA (nB 0) 13) (fA 14)) (.node
  (nB 0) (lA (nB 0) 13) (fA 14))) (.node (nB 0) (.node (nB 0) (lA (nB 0) 13) (fA 14)) (.node (nB 0) (lA (nB 0) 13) (fA 14)))) (.node (nB 0) (.node (nB 0) (.node (nB 0) (lA (nB 0) 13)
  (fA 14)) (.node (nB 0) (lA (nB 0) 13) (fA 14))) (.node (nB 0) (.node (nB 0) (lA (nB 0) 13) (fA 14)) (lA (nB 0) 14)))) (.node (nB 0) (.node (nB 0) (.node (nB 0) (.node (nB 0) (lA
  (nB 0) 13) (fA 14)) (.node (nB 0) (lA (nB 0) 13) (fA 14))) (.node (nB 0) (.node (nB 0) (lA (nB 0) 13) (fA 14)) (.node (nB 0) (lA (nB 0) 13) (fA 14)))) (.node (nB 0) (.node (nB 0)
  (.node (nB 0) (lA (nB 0) 13) (fA 14)) (.node (nB 0) (lA (nB 0) 13) (fA 14))) (.node (nB 0) (.node (nB 0) (lA (nB 0) 13) (fA 14)) (lA (nB 0) 14)))))) (.node (nB 255) (.node (nB 0)
  (.node (nB 0) (.node (nB 0) (.node (nB 0) (.node (nB 0) (lA (nB 1) 13) (fA 14)) (.node (nB 0) (lA (nB 0) 13) (fA 14))) (.node (nB 0) (.node (nB 0) (lA (nB 0) 13) (fA 14)) (.node
  (nB 0) (lA (nB 0) 13) (fA 14)))) (.node (nB 0) (.node (nB 0) (.node (nB 0) (lA (nB 0) 13) (fA 14)) (.node (nB 0) (lA (nB 0) 13) (fA 14))) (.node (nB 0) (.node (nB 0) (lA (nB 0) 13)
  (fA 14)) (lA (nB 0) 14)))) (.node (nB 0) (.node (nB 0) (.node (nB 0) (.node (nB 0) (lA (nB 0) 13) (fA 14)) (.node (nB 0) (lA (nB 0) 13) (fA 14))) (.node (nB 0) (.node (nB 0) (lA
  (nB 0) 13) (fA 14)) (.node (nB 0) (lA (nB 0) 13) (fA 14)))) (.node (nB 0) (.node (nB 0) (.node (nB 0) (lA (nB 0) 13) (fA 14)) (.node (nB 0) (lA (nB 0) 13) (fA 14))) (.node (nB 0)
  (.node (nB 0) (lA (nB 0) 13) (fA 14)) (lA (nB 0) 14))))) (.node (nB 0) (.node (nB 0) (.node (nB 0) (.node (nB 0) (.node (nB 0) (lA (nB 0) 13) (fA 14)) (.node (nB 0) (lA (nB 0) 13)
  (fA 14))) (.node (nB 0) (.node (nB 0) (lA (nB 0) 13) (fA 14)) (.node (nB 0) (lA (nB 0) 13) (fA 14)))) (.node (nB 0) (.node (nB 0) (.node (nB 0) (lA (nB 0) 13) (fA 14)) (.node (nB
  0) (lA (nB 0) 13) (fA 14))) (.node (nB 0) (.node (nB 0) (lA (nB 0) 13) (fA 14)) (lA (nB 0) 14)))) (.node (nB 0) (.node (nB 0) (.node (nB 0) (.node (nB 0) (lA (nB 0) 13) (fA 14))
  (.node (nB 0) (lA (nB 0) 13) (fA 14))) (.node (nB 0) (.node (nB 0) (lA (nB 0) 13) (fA 14)) (.node (nB 0) (lA (nB 0) 13) (fA 14)))) (.node (nB 0) (.node (nB 0) (.node (nB 0) (lA (nB
  0) 13) (fA 14)) (.node (nB 0) (lA (nB 0) 13) (fA 14))) (.node (nB 0) (.node (nB 0) (lA (nB 0) 13) (fA 14)) (lA (nB 0) 14))))))) (.node (nB 0) (.node (nB 0) (.node (nB 0) (.node (nB
  0) (.node (nB 0) (.node (nB 0) (.node (nB 0) (lA (nB 0) 13) (fA 14)) (.node (nB 0) (lA (nB 0) 13) (fA 14))) (.node (nB 0) (.node (nB 0) (lA (nB 0) 13) (fA 14)) (.node (nB 0) (lA
  (nB 0) 13) (fA 14)))) (.node (nB 0) (.node (nB 0) (.node (nB 0) (lA (nB 69) 13) (fA 14)) (.node (nB 0) (lA (nB 0) 13) (fA 14))) (.node (nB 0) (.node (nB 0) (lA (nB 0) 13) (fA 14))
  (.node (nB 0) (lA (nB 0) 13) (fA 14))))) (.node (nB 0) (.node (nB 0) (.node (nB 0) (.node (nB 0) (lA (nB 0) 13) (fA 14)) (.node (nB 0) (lA (nB 0) 13) (fA 14))) (.node (nB 0) (.node
  (nB 0) (lA (nB 0) 13) (fA 14)) (.node (nB 0) (lA (nB 0) 13) (fA 14)))) (.node (nB 0) (.node (nB 0) (.node (nB 0) (lA (nB 0) 13) (fA 14)) (.node (nB 0) (lA (nB 0) 13) (fA 14)))
  (.node (nB 0) (.node (nB 0) (lA (nB 0) 13) (fA 14)) (lA (nB 0) 14))))) (.node (nB 0) (.node (nB 0) (.node (nB 0) (.node (nB 0) (.node (nB 0) (lA (nB 0) 13) (fA 14)) (.node (nB 0)
  (lA (nB 0) 13) (fA 14))) (.node (nB 0) (.node (nB 0) (lA (nB 0) 13) (fA 14)) (.node (nB 0) (lA (nB 0) 13) (fA 14)))) (.node (nB 0) (.node (nB 0) (.node (nB 0) (lA (nB 0) 13) (fA
  14)) (.node (nB 0) (lA (nB 0) 13) (fA 14))) (.node (nB 0) (.node (nB 0) (lA (nB 0) 13) (fA 14)) (lA (nB 0) 14)))) (.node (nB 0) (.node (nB 0) (.node (nB 0) (.node (nB 0) (lA (nB 0)
  13) (fA 14)) (.node (nB 0) (lA (nB 0) 13) (fA 14))) (.node (nB 0) (.node (nB 0) (lA (nB 0) 13) (fA 14)) (.node (nB 0) (lA (nB 0) 13) (fA 14)))) (.node (nB 0) (.node (nB 0) (.node
  (nB 0) (lA (nB 0) 13) (fA 14)) (.node (nB 0) (lA (nB 0) 13) (fA 14))) (.node (nB 0) (.node (nB 0) (lA (nB 0) 13) (fA 14)) (lA (nB 0) 14)))))) (.node (nB 255) (.node (nB 0) (.node
  (nB 0) (.node (nB 0) (.node (nB 0) (.node (nB 0) (lA (nB 0) 13) (fA 14)) (.node (nB 0) (lA (nB 0) 13) (fA 14))) (.node (nB 0) (.node (nB 0) (lA (nB 0) 13) (fA 14)) (.node (nB 0)
  (lA (nB 0) 13) (fA 14)))) (.node (nB 0) (.node (nB 0) (.node (nB 0) (lA (nB 0) 13) (fA 14)) (.node (nB 0) (lA (nB 0) 13) (fA 14))) (.node (nB 0) (.node (nB 0) (lA (nB 0) 13) (fA
  14)) (lA (nB 0) 14)))) (.node (nB 0) (.node (nB 0) (.node (nB 0) (.node (nB 0) (lA (nB 0) 13) (fA 14)) (.node (nB 0) (lA (nB 0) 13) (fA 14))) (.node (nB 0) (.node (nB 0) (lA (nB 0)
  13) (fA 14)) (.node (nB 0) (lA (nB 0) 13) (fA 14)))) (.node (nB 0) (.node (nB 0) (.node (nB 0) (lA (nB 0) 13) (fA 14)) (.node (nB 0) (lA (nB 0) 13) (fA 14))) (.node (nB 0) (.node
  (nB 0) (lA (nB 0) 13) (fA 14)) (lA (nB 0) 14))))) (.node (nB 0) (.node (nB 0) (.node (nB 0) (.node (nB 0) (.node (nB 0) (lA (nB 0) 13) (fA 14)) (.node (nB 0) (lA (nB 0) 13) (fA
  14))) (.node (nB 0) (.node (nB 0) (lA (nB 0) 13) (fA 14)) (.node (nB 0) (lA (nB 0) 13) (fA 14)))) (.node (nB 0) (.node (nB 0) (.node (nB 0) (lA (nB 0) 13) (fA 14)) (.node (nB 0)
  (lA (nB 0) 13) (fA 14))) (.node (nB 0) (.node (nB 0) (lA (nB 0) 13) (fA 14)) (lA (nB 0) 14)))) (.node (nB 0) (.node (nB 0) (.node (nB 0) (.node (nB 0) (lA (nB 0) 13) (fA 14))
  (.node (nB 0) (lA (nB 0) 13) (fA 14))) (.node (nB 0) (.node (nB 0) (lA (nB 0) 13) (fA 14)) (.node (nB 0) (lA (nB 0) 13) (fA 14)))) (.node (nB 0) (.node (nB 0) (.node (nB 0) (lA (nB
  0) 13) (fA 14)) (.node (nB 0) (lA (nB 0) 13) (fA 14))) (.node (nB 0) (.node (nB 0) (lA (nB 0) 13) (fA 14)) (lA (nB 0) 14)))))))) (.node (nB 73) (.node (nB 0) (.node (nB 0) (.node
  (nB 0) (.node (nB 0) (.node (nB 0) (.node (nB 0) (.node (nB 0) (lA (nB 0) 13) (fA 14)) (.node (nB 0) (lA (nB 0) 13) (fA 14))) (.node (nB 0) (.node (nB 0) (lA (nB 0) 13) (fA 14))
  (.node (nB 0) (lA (nB 0) 13) (fA 14)))) (.node (nB 0) (.node (nB 0) (.node (nB 0) (lA (nB 0) 13) (fA 14)) (.node (nB 0) (lA (nB 0) 13) (fA 14))) (.node (nB 0) (.node (nB 0) (lA (nB
  0) 13) (fA 14)) (.node (nB 0) (lA (nB 0) 13) (fA 14))))) (.node (nB 0) (.node (nB 0) (.node (nB 0) (.node (nB 0) (lA (nB 0) 13) (fA 14)) (.node (nB 0) (lA (nB 0) 13) (fA 14)))
  (.node (nB 0) (.node (nB 0) (lA (nB 0) 13) (fA 14)) (.node (nB 0) (lA (nB 0) 13) (fA 14)))) (.node (nB 0) (.node (nB 0) (.node (nB 0) (lA (nB 0) 13) (fA 14)) (.node (nB 0) (lA (nB
  0) 13) (fA 14))) (.node (nB 0) (.node (nB 0) (lA (nB 0) 13) (fA 14)) (lA (nB 0) 14))))) (.node (nB 0) (.node (nB 0) (.node (nB 0) (.node (nB 0) (.node (nB 0) (lA (nB 0) 13) (fA
  14)) (.node (nB 0) (lA (nB 0) 13) (fA 14))) (.node (nB 0) (.node (nB 0) (lA (nB 0) 13) (fA 14)) (.node (nB 0) (lA (nB 0) 13) (fA 14)))) (.node (nB 0) (.node (nB 0) (.node (nB 0)
  (lA (nB 0) 13) (fA 14)) (.node (nB 0) (lA (nB 0) 13) (fA 14))) (.node (nB 0) (.node (nB 0) (lA (nB 0) 13) (fA 14)) (lA (nB 0) 14)))) (.node (nB 0) (.node (nB 0) (.node (nB 0)
  (.node (nB 0) (lA (nB 0) 13) (fA 14)) (.node (nB 0) (lA (nB 0) 13) (fA 14))) (.node (nB 0) (.node (nB 0) (lA (nB 0) 13) (fA 14)) (.node (nB 0) (lA (nB 0) 13) (fA 14)))) (.node (nB
  0) (.node (nB 0) (.node (nB 0) (lA (nB 0) 13) (fA 14)) (.node (nB 0) (lA (nB 0) 13) (fA 14))) (.node (nB 0) (.node (nB 0) (lA (nB 0) 13) (fA 14)) (lA (nB 0) 14)))))) (.node (nB
  255) (.node (nB 0) (.node (nB 0) (.node (nB 0) (.node (nB 0) (.node (nB 0) (lA (nB 0) 13) (fA 14)) (.node (nB 0) (lA (nB 0) 13) (fA 14))) (.node (nB 0) (.node (nB 0) (lA (nB 0) 13)
  (fA 14)) (.node (nB 0) (lA (nB 0) 13) (fA 14)))) (.node (nB 0) (.node (nB 0) (.node (nB 0) (lA (nB 0) 13) (fA 14)) (.node (nB 0) (lA (nB 0) 13) (fA 14))) (.node (nB 0) (.node (nB
  0) (lA (nB 0) 13) (fA 14)) (lA (nB 0) 14)))) (.node (nB 0) (.node (nB 0) (.node (nB 0) (.node (nB 0) (lA (nB 0) 13) (fA 14)) (.node (nB 0) (lA (nB 0) 13) (fA 14))) (.node (nB 0)
  (.node (nB 0) (lA (nB 0) 13) (fA 14)) (.node (nB 0) (lA (nB 0) 13) (fA 14)))) (.node (nB 0) (.node (nB 0) (.node (nB 0) (lA (nB 0) 13) (fA 14)) (.node (nB 0) (lA (nB 0) 13) (fA
  14))) (.node (nB 0) (.node (nB 0) (lA (nB 0) 13) (fA 14)) (lA (nB 0) 14))))) (.node (nB 0) (.node (nB 0) (.node (nB 0) (.node (nB 0) (.node (nB 0) (lA (nB 0) 13) (fA 14)) (.node
  (nB 0) (lA (nB 0) 13) (fA 14))) (.node (nB 0) (.node (nB 0) (lA (nB 0) 13) (fA 14)) (.node (nB 0) (lA (nB 0) 13) (fA 14)))) (.node (nB 0) (.node (nB 0) (.node (nB 0) (lA (nB 0) 13)
  (fA 14)) (.node (nB 0) (lA (nB 0) 13) (fA 14))) (.node (nB 0) (.node (nB 0) (lA (nB 0) 13) (fA 14)) (lA (nB 0) 14)))) (.node (nB 0) (.node (nB 0) (.node (nB 0) (.node (nB 0) (lA
  (nB 0) 13) (fA 14)) (.node (nB 0) (lA (nB 0) 13) (fA 14))) (.node (nB 0) (.node (nB 0) (lA (nB 0) 13) (fA 14)) (.node (nB 0) (lA (nB 0) 13) (fA 14)))) (.node (nB 0) (.node (nB 0)
  (.node (nB 0) (lA (nB 0) 13) (fA 14)) (.node (nB 0) (lA (nB 0) 13) (fA 14))) (.node (nB 0) (.node (nB 0) (lA (nB 0) 13) (fA 14)) (lA (nB 0) 14))))))) (.node (nB 0) (.node (nB 0)
  (.node (nB 0) (.node (nB 0) (.node (nB 0) (.node (nB 0) (.node (nB 0) (lA (nB 0) 13) (fA 14)) (.node (nB 0) (lA (nB 0) 13) (fA 14))) (.node (nB 0) (.node (nB 0) (lA (nB 0) 13) (fA
  14)) (.node (nB 0) (lA (nB 0) 13) (fA 14)))) (.node (nB 0) (.node (nB 0) (.node (nB 0) (lA (nB 69) 13) (fA 14)) (.node (nB 0) (lA (nB 0) 13) (fA 14))) (.node (nB 0) (.node (nB 0)
  (lA (nB 0) 13) (fA 14)) (.node (nB 0) (lA (nB 0) 13) (fA 14))))) (.node (nB 0) (.node (nB 0) (.node (nB 0) (.node (nB 0) (lA (nB 0) 13) (fA 14)) (.node (nB 0) (lA (nB 0) 13) (fA
  14))) (.node (nB 0) (.node (nB 0) (lA (nB 0) 13) (fA 14)) (.node (nB 0) (lA (nB 0) 13) (fA 14)))) (.node (nB 0) (.node (nB 0) (.node (nB 0) (lA (nB 0) 13) (fA 14)) (.node (nB 0)
  (lA (nB 0) 13) (fA 14))) (.node (nB 0) (.node (nB 0) (lA (nB 0) 13) (fA 14)) (lA (nB 0) 14))))) (.node (nB 0) (.node (nB 0) (.node (nB 0) (.node (nB 0) (.node (nB 0) (lA (nB 0) 13)
  (fA 14)) (.node (nB 0) (lA (nB 0) 13) (fA 14))) (.node (nB 0) (.node (nB 0) (lA (nB 0) 13) (fA 14)) (.node (nB 0) (lA (nB 0) 13) (fA 14)))) (.node (nB 0) (.node (nB 0) (.node (nB
  0) (lA (nB 0) 13) (fA 14)) (.node (nB 0) (lA (nB 0) 13) (fA 14))) (.node (nB 0) (.node (nB 0) (lA (nB 0) 13) (fA 14)) (lA (nB 0) 14)))) (.node (nB 0) (.node (nB 0) (.node (nB 0)
  (.node (nB 0) (lA (nB 0) 13) (fA 14)) (.node (nB 0) (lA (nB 0) 13) (fA 14))) (.node (nB 0) (.node (nB 0) (lA (nB 0) 13) (fA 14)) (.node (nB 0) (lA (nB 0) 13) (fA 14)))) (.node (nB
  0) (.node (nB 0) (.node (nB 0) (lA (nB 0) 13) (fA 14)) (.node (nB 0) (lA (nB 0) 13) (fA 14))) (.node (nB 0) (.node (nB 0) (lA (nB 0) 13) (fA 14)) (lA (nB 0) 14)))))) (.node (nB
  255) (.node (nB 0) (.node (nB 0) (.node (nB 0) (.node (nB 0) (.node (nB 0) (lA (nB 0) 13) (fA 14)) (.node (nB 0) (lA (nB 0) 13) (fA 14))) (.node (nB 0) (.node (nB 0) (lA (nB 0) 13)
  (fA 14)) (.node (nB 0) (lA (nB 0) 13) (fA 14)))) (.node (nB 0) (.node (nB 0) (.node (nB 0) (lA (nB 0) 13) (fA 14)) (.node (nB 0) (lA (nB 0) 13) (fA 14))) (.node (nB 0) (.node (nB
  0) (lA (nB 0) 13) (fA 14)) (lA (nB 0) 14)))) (.node (nB 0) (.node (nB 0) (.node (nB 0) (.node (nB 0) (lA (nB 0) 13) (fA 14)) (.node (nB 0) (lA (nB 0) 13) (fA 14))) (.node (nB 0)
  (.node (nB 0) (lA (nB 0) 13) (fA 14)) (.node (nB 0) (lA (nB 0) 13) (fA 14)))) (.node (nB 0) (.node (nB 0) (.node (nB 0) (lA (nB 0) 13) (fA 14)) (.node (nB 0) (lA (nB 0) 13) (fA
  14))) (.node (nB 0) (.node (nB 0) (lA (nB 0) 13) (fA 14)) (lA (nB 0) 14))))) (.node (nB 0) (.node (nB 0) (.node (nB 0) (.node (nB 0) (.node (nB 0) (lA (nB 0) 13) (fA 14)) (.node
  (nB 0) (lA (nB 0) 13) (fA 14))) (.node (nB 0) (.node (nB 0) (lA (nB 0) 13) (fA 14)) (.node (nB 0) (lA (nB 0) 13) (fA 14)))) (.node (nB 0) (.node (nB 0) (.node (nB 0) (lA (nB 0) 13)
  (fA 14)) (.node (nB 0) (lA (nB 0) 13) (fA 14))) (.node (nB 0) (.node (nB 0) (lA (nB 0) 13) (fA 14)) (lA (nB 0) 14)))) (.node (nB 0) (.node (nB 0) (.node (nB 0) (.node (nB 0) (lA
  (nB 0) 13) (fA 14)) (.node (nB 0) (lA (nB 0) 13) (fA 14))) (.node (nB 0) (.node (nB 0) (lA (nB 0) 13) (fA 14)) (.node (nB 0) (lA (nB 0) 13) (fA 14)))) (.node (nB 0) (.node (nB 0)
  (.node (nB 0) (lA (nB 0) 13) (fA 14)) (.node (nB 0) (lA (nB 0) 13) (fA 14))) (.node (nB 0) (.node (nB 0) (lA (nB 0) 13) (fA 14)) (lA (nB 0) 14)))))))))) false false) 10) (fD 11))
  (fD 12)) (fD 13)) (fD 14)) (fD 15))) (.node .dead (.node .dead (fD 15) (.node .dead (fD 14) (lD (.cells 106 12 12 (.node (nI 1) (.node (nI 0) (.node (nI 0) (lA (.str (bs [])) 20)
  (lA (nI 0) 20)) (.node (nU 0) (lA (nI 0) 20) (fA 21))) (.node (nI 0) (.node (nU 0) (lA (nU 0) 20) (fA 21)) (.node (nI 0) (lA .nilsl 20) (fA 21)))) true false) 13))) (fD 16))) (fD
  18))) (.node .dead (fD 19) (.node .dead (.node .dead (fD 17) (.node .dead (.node .dead (.node .dead (fD 14) (.node .dead (fD 13) (.node .dead (lD (.cells 49 10 10 (.node (nI 7)
  (.node (nI 0) (.node (nU 0) (lA (nU 0) 20) (fA 21)) (.node (nI 0) (lA .nilsl 20) (fA 21))) (.node (nI 0) (.node (nU 0) (lA (nI 0) 20) (fA 21)) (lA (.str (bs [])) 21))) true false)
  11) (fD 12)))) (.node .dead (fD 14) (lD o41 13))) (fD 16))) (fD 18)))) (.node .dead (fD 20) (.node .dead (fD 19) (.node .dead (.node .dead (fD 17) (.node .dead (.node .dead (.node
  .dead (fD 14) (.node .dead (lD o19 12) (.node .dead (lD (.cells 49 10 10 (.node (nI 7) (.node (nI 0) (.node (nU 0) (lA (nU 0) 20) (fA 21)) (.node (nI 0) (lA .nilsl 20) (fA 21)))
  (.node (nI 0) (.node (nU 0) (lA (nI 0) 20) (fA 21)) (lA (.str (bs [])) 21))) true false) 11) (fD 12)))) (fD 15)) (fD 16))) (fD 18))))))), 8340⟩,
  [.code (codeAt Tryz.f56 [1, 0, 1,
  0, 0, 1, 1]), .lp (codeAt Tryz.f56 [1, 0, 1, 0, 0]), .blk 0, .code (codeAt Tryz.f56 [1, 1])]⟩
/-- where the run stands at the end of part 21 -/
noncomputable def s21 : St :=
  ⟨⟨170, 20, [], .normal, none,
  [o24,
    o42,
    o43,
    o27,
    o30,
    o28,
    o18,
    o16,
    o6]⟩,
  .run,
  (.node (.sl 5728 0 0 384 (.u 5728 0)) (.node undefV (.node
  (.sl 8731 0 0 2528 (.u 8731 0)) (.node (.sl 5728 0 0 384 (.u 5728 0)) (lU (.sl 8728 0 0 2520 (.u 8728 0)) 19) (fU 20)) (lU (.ptr 5728 315) 20)) (.node (nU 0) (.node (nI 315) (lU
  (.sl 8731 0 0 2528 (.u 8731 0)) 19) (fU 20)) (lU (nU 0) 20))) (.node .nilsl (.node undefV (.node (nI 384) (lU (.sl 8730 0 0 8 (.k 8)) 19) (fU 20)) (lU (nU 0) 20)) (.node (.ptr 8730
  0) (.node (.bool true) (lU (nI 315) 19) (fU 20)) (lU (.agg [(nB 0), (nB 0), (nB 0), (nB 0), (nB 0), (nB 0), (nB 0), (nB 0)]) 20)))),
  ⟨(.node (.cells 31 10 10 (.node .nil (.node
  (nI 0) (.node (nI 0) (lA .nil 20) (fA 21)) (.node (.bool false) (lA .nilfn 20) (fA 21))) (.node (nI 0) (.node .nilsl (lA .nil 20) (fA 21)) (lA .nilsl 21))) true false) (.node .dead
  (.node o1 (.node (.cells 5 1 64 (fB 24) true false) (.node .dead (.node .dead (.node .dead (fD 17) (lD (.map [] 0) 16)) (.node .dead (fD 17) (.node .dead (.node .dead (.node .dead
  (fD 14) (.node .dead (lD (.cells 167 1 1 (lA (.ptr 1882 0) 23) true false) 12) (fD 13))) (fD 15)) (fD 16)))) (fD 19)) (.node .dead (.node .dead (.node .dead (fD 17) (.node .dead
  (fD 16) (.node .dead (fD 15) (lD o15 14)))) (fD 18)) (fD 19))) (.node .dead (.node .dead (.node .dead (fD 18) (lD (.cells 99 3 3 (.node .nilsl (lA .nilsl 22) (lA (.bool false) 22))
  false false) 17)) (.node .dead (.node .dead (fD 17) (.node .dead (.node .dead (fD 15) (.node .dead (fD 14) (lD (.cells 49 10 10 (.node (nI 5) (.node (nI 0) (.node (nU 0) (lA (nU 0)
  20) (fA 21)) (.node (nI 0) (lA .nilsl 20) (fA 21))) (.node (nI 0) (.node (nU 0) (lA (nI 0) 20) (fA 21)) (lA (.str (bs [])) 21))) true false) 13))) (fD 16))) (fD 18))) (.node .dead
  (fD 19) (.node (.cells 5 1 64 (fB 24) true false) (.node .dead (.node .dead (.node .dead (.node .dead (fD 14) (.node .dead (.node .dead (.node .dead (lD (.cells 5 1 2528 (.node (nB
  70) (.node (nB 65) (.node (nB 84) (.node (nB 82) (.node (nB 0) (.node (nB 255) (.node (nB 0) (.node (nB 0) (.node (nB 0) (.node (nB 0) (.node (nB 0) (lA (nB 0) 12) (fA 13)) (lA (nB
  0) 13)) (.node (nB 0) (.node (nB 0) (lA (nB 0) 12) (fA 13)) (lA (nB 0) 13))) (.node (nB 0) (.node (nB 0) (.node (nB 0) (lA (nB 0) 12) (fA 13)) (lA (nB 0) 13)) (.node (nB 0) (.node
  (nB 0) (lA (nB 0) 12) (fA 13)) (lA (nB 0) 13)))) (.node (nB 0) (.node (nB 0) (.node (nB 0) (.node (nB 0) (lA (nB 0) 12) (fA 13)) (lA (nB 0) 13)) (.node (nB 0) (.node (nB 0) (lA (nB
  0) 12) (fA 13)) (lA (nB 0) 13))) (.node (nB 0) (.node (nB 0) (.node (nB 0) (lA (nB 0) 12) (fA 13)) (lA (nB 0) 13)) (.node (nB 0) (.node (nB 0) (lA (nB 0) 12) (fA 13)) (lA (nB 0)
  13))))) (.node (nB 0) (.node (nB 0) (.node (nB 0) (.node (nB 0) (.node (nB 0) (lA (nB 0) 12) (fA 13)) (lA (nB 0) 13)) (.node (nB 0) (.node (nB 0) (lA (nB 0) 12) (fA 13)) (lA (nB 0)
  13))) (.node (nB 0) (.node (nB 0) (.node (nB 0) (lA (nB 0) 12) (fA 13)) (lA (nB 0) 13)) (.node (nB 0) (.node (nB 0) (lA (nB 0) 12) (fA 13)) (lA (nB 0) 13)))) (.node (nB 0) (.node
  (nB 0) (.node (nB 0) (.node (nB 0) (lA (nB 0) 12) (fA 13)) (lA (nB 0) 13)) (.node (nB 0) (.node (nB 0) (lA (nB 0) 12) (fA 13)) (lA (nB 0) 13))) (.node (nB 0) (.node (nB 0) (.node
  (nB 0) (lA (nB 0) 12) (fA 13)) (lA (nB 0) 13)) (.node (nB 0) (.node (nB 0) (lA (nB 0) 12) (fA 13)) (lA (nB 0) 13)))))) (.node (nB 0) (.node (nB 0) (.node (nB 0) (.node (nB 0)
  (.node (nB 0) (.node (nB 0) (lA (nB 0) 12) (fA 13)) (lA (nB 0) 13)) (.node (nB 0) (.node (nB 0) (lA (nB 0) 12) (fA 13)) (lA (nB 0) 13))) (.node (nB 0) (.node (nB 0) (.node (nB 0)
  (lA (nB 0) 12) (fA 13)) (lA (nB 0) 13)) (.node (nB 0) (.node (nB 0) (lA (nB 0) 12) (fA 13)) (lA (nB 0) 13)))) (.node (nB 0) (.node (nB 0) (.node (nB 0) (.node (nB 0) (lA (nB 0) 12)
  (fA 13)) (lA (nB 0) 13)) (.node (nB 0) (.node (nB 0) (lA (nB 0) 12) (fA 13)) (lA (nB 0) 13))) (.node (nB 0) (.node (nB 0) (.node (nB 0) (lA (nB 0) 12) (fA 13)) (lA (nB 0) 13))
  (.node (nB 0) (.node (nB 0) (lA (nB 0) 12) (fA 13)) (lA (nB 0) 13))))) (.node (nB 0) (.node (nB 0) (.node (nB 0) (.node (nB 0) (.node (nB 0) (lA (nB 0) 12) (fA 13)) (lA (nB 0) 13))
  (.node (nB 0) (.node (nB 0) (lA (nB 0) 12) (fA 13)) (lA (nB 0) 13))) (.node (nB 0) (.node (nB 0) (.node (nB 0) (lA (nB 0) 12) (fA 13)) (lA (nB 0) 13)) (.node (nB 0) (.node (nB 0)
  (lA (nB 0) 12) (fA 13)) (lA (nB 0) 13)))) (.node (nB 0) (.node (nB 0) (.node (nB 0) (.node (nB 0) (lA (nB 0) 12) (fA 13)) (lA (nB 0) 13)) (.node (nB 0) (.node (nB 0) (lA (nB 0) 12)
  (fA 13)) (lA (nB 0) 13))) (.node (nB 0) (.node (nB 0) (.node (nB 0) (lA (nB 0) 12) (fA 13)) (lA (nB 0) 13)) (.node (nB 0) (lA (nB 0) 13) (lA (nB 0) 13))))))) (.node (nB 0) (.node
  (nB 0) (.node (nB 0) (.node (nB 0) (.node (nB 0) (.node (nB 0) (.node (nB 0) (lA (nB 0) 12) (fA 13)) (lA (nB 0) 13)) (.node (nB 0) (.node (nB 0) (lA (nB 0) 12) (fA 13)) (lA (nB 0)
  13))) (.node (nB 0) (.node (nB 0) (.node (nB 0) (lA (nB 0) 12) (fA 13)) (lA (nB 0) 13)) (.node (nB 0) (.node (nB 0) (lA (nB 0) 12) (fA 13)) (lA (nB 0) 13)))) (.node (nB 0) (.node
  (nB 0) (.node (nB 0) (.node (nB 76) (lA (nB 0) 12) (fA 13)) (lA (nB 0) 13)) (.node (nB 0) (.node (nB 0) (lA (nB 0) 12) (fA 13)) (lA (nB 0) 13))) (.node (nB 0) (.node (nB 0) (.node
  (nB 0) (lA (nB 0) 12) (fA 13)) (lA (nB 0) 13)) (.node (nB 0) (.node (nB 0) (lA (nB 0) 12) (fA 13)) (lA (nB 0) 13))))) (.node (nB 0) (.node (nB 0) (.node (nB 0) (.node (nB 0) (.node
  (nB 0) (lA (nB 0) 12) (fA 13)) (lA (nB 0) 13)) (.node (nB 0) (.node (nB 0) (lA (nB 0) 12) (fA 13)) (lA (nB 0) 13))) (.node (nB 0) (.node (nB 0) (.node (nB 0) (lA (nB 0) 12) (fA
  13)) (lA (nB 0) 13)) (.node (nB 0) (.node (nB 0) (lA (nB 0) 12) (fA 13)) (lA (nB 0) 13)))) (.node (nB 0) (.node (nB 0) (.node (nB 0) (.node (nB 0) (lA (nB 0) 12) (fA 13)) (lA (nB
  0) 13)) (.node (nB 0) (.node (nB 0) (lA (nB 0) 12) (fA 13)) (lA (nB 0) 13))) (.node (nB 0) (.node (nB 0) (.node (nB 0) (lA (nB 0) 12) (fA 13)) (lA (nB 0) 13)) (.node (nB 0) (lA (nB
  0) 13) (lA (nB 0) 13)))))) (.node (nB 0) (.node (nB 0) (.node (nB 0) (.node (nB 0) (.node (nB 0) (.node (nB 0) (lA (nB 0) 12) (fA 13)) (lA (nB 0) 13)) (.node (nB 0) (.node (nB 0)
  (lA (nB 0) 12) (fA 13)) (lA (nB 0) 13))) (.node (nB 0) (.node (nB 0) (.node (nB 0) (lA (nB 0) 12) (fA 13)) (lA (nB 0) 13)) (.node (nB 0) (.node (nB 0) (lA (nB 0) 12) (fA 13)) (lA
  (nB 0) 13)))) (.node (nB 0) (.node (nB 0) (.node (nB 0) (.node (nB 0) (lA (nB 0) 12) (fA 13)) (lA (nB 0) 13)) (.node (nB 0) (.node (nB 0) (lA (nB 0) 12) (fA 13)) (lA (nB 0) 13)))
  (.node (nB 0) (.node (nB 0) (.node (nB 0) (lA (nB 0) 12) (fA 13)) (lA (nB 0) 13)) (.node (nB 0) (.node (nB 0) (lA (nB 0) 12) (fA 13)) (lA (nB 0) 13))))) (.node (nB 0) (.node (nB 0)
  (.node (nB 0) (.node (nB 0) (.node (nB 0) (lA (nB 0) 12) (fA 13)) (lA (nB 0) 13)) (.node (nB 0) (.node (nB 0) (lA (nB 0) 12) (fA 13)) (lA (nB 0) 13))) (.node (nB 0) (.node (nB 0)
  (.node (nB 0) (lA (nB 0) 12) (fA 13)) (lA (nB 0) 13)) (.node (nB 0) (.node (nB 0) (lA (nB 0) 12) (fA 13)) (lA (nB 0) 13)))) (.node (nB 0) (.node (nB 0) (.node (nB 0) (.node (nB 0)
  (lA (nB 0) 12) (fA 13)) (lA (nB 0) 13)) (.node (nB 0) (.node (nB 0) (lA (nB 0) 12) (fA 13)) (lA (nB 0) 13))) (.node (nB 0) (.node (nB 0) (.node (nB 0) (lA (nB 0) 12) (fA 13)) (lA
  (nB 0) 13)) (.node (nB 0) (lA (nB 0) 13) (lA (nB 0) 13)))))))) (.node (nB 0) (.node (nB 0) (.node (nB 0) (.node (nB 0) (.node (nB 0) (.node (nB 0) (.node (nB 0) (.node (nB 0) (lA
  (nB 0) 12) (fA 13)) (lA (nB 0) 13)) (.node (nB 0) (.node (nB 0) (lA (nB 0) 12) (fA 13)) (lA (nB 0) 13))) (.node (nB 0) (.node (nB 0) (.node (nB 0) (lA (nB 0) 12) (fA 13)) (lA (nB
  0) 13)) (.node (nB 0) (.node (nB 0) (lA (nB 0) 12) (fA 13)) (lA (nB 0) 13)))) (.node (nB 0) (.node (nB 0) (.node (nB 0) (.node (nB 69) (lA (nB 0) 12) (fA 13)) (lA (nB 0) 13))
  (.node (nB 0) (.node (nB 0) (lA (nB 0) 12) (fA 13)) (lA (nB 0) 13))) (.node (nB 0) (.node (nB 0) (.node (nB 0) (lA (nB 0) 12) (fA 13)) (lA (nB 0) 13)) (.node (nB 0) (.node (nB 0)
  (lA (nB 0) 12) (fA 13)) (lA (nB 0) 13))))) (.node (nB 0) (.node (nB 0) (.node (nB 0) (.node (nB 0) (.node (nB 0) (lA (nB 0) 12) (fA 13)) (lA (nB 0) 13)) (.node (nB 0) (.node (nB 0)
  (lA (nB 0) 12) (fA 13)) (lA (nB 0) 13))) (.node (nB 0) (.node (nB 0) (.node (nB 0) (lA (nB 0) 12) (fA 13)) (lA (nB 0) 13)) (.node (nB 0) (.node (nB 0) (lA (nB 0) 12) (fA 13)) (lA
  (nB 0) 13)))) (.node (nB 0) (.node (nB 0) (.node (nB 0) (.node (nB 0) (lA (nB 0) 12) (fA 13)) (lA (nB 0) 13)) (.node (nB 0) (.node (nB 0) (lA (nB 0) 12) (fA 13)) (lA (nB 0) 13)))
  (.node (nB 0) (.node (nB 0) (.node (nB 0) (lA (nB 0) 12) (fA 13)) (lA (nB 0) 13)) (.node (nB 0) (lA (nB 0) 13) (lA (nB 0) 13)))))) (.node (nB 0) (.node (nB 0) (.node (nB 0) (.node
  (nB 0) (.node (nB 0) (.node (nB 0) (lA (nB 0) 12) (fA 13)) (lA (nB 0) 13)) (.node (nB 0) (.node (nB 0) (lA (nB 0) 12) (fA 13)) (lA (nB 0) 13))) (.node (nB 0) (.node (nB 0) (.node
  (nB 0) (lA (nB 0) 12) (fA 13)) (lA (nB 0) 13)) (.node (nB 0) (.node (nB 0) (lA (nB 0) 12) (fA 13)) (lA (nB 0) 13)))) (.node (nB 0) (.node (nB 0) (.node (nB 0) (.node (nB 0) (lA (nB
  0) 12) (fA 13)) (lA (nB 0) 13)) (.node (nB 0) (.node (nB 0) (lA (nB 0) 12) (fA 13)) (lA (nB 0) 13))) (.node (nB 0) (.node (nB 0) (.node (nB 0) (lA (nB 0) 12) (fA 13)) (lA (nB 0)
  13)) (.node (nB 0) (.node (nB 0) (lA (nB 0) 12) (fA 13)) (lA (nB 0) 13))))) (.node (nB 0) (.node (nB 0) (.node (nB 0) (.node (nB 0) (.node (nB 0) (lA (nB 0) 12) (fA 13)) (lA (nB 0)
  13)) (.node (nB 0) (.node (nB 0) (lA (nB 0) 12) (fA 13)) (lA (nB 0) 13))) (.node (nB 0) (.node (nB 0) (.node (nB 0) (lA (nB 0) 12) (fA 13)) (lA (nB 0) 13)) (.node (nB 0) (.node (nB
  0) (lA (nB 0) 12) (fA 13)) (lA (nB 0) 13)))) (.node (nB 0) (.node (nB 0) (.node (nB 0) (.node (nB 0) (lA (nB 0) 12) (fA 13)) (lA (nB 0) 13)) (.node (nB 0) (.node (nB 0) (lA (nB 0)
  12) (fA 13)) (lA (nB 0) 13))) (.node (nB 0) (.node (nB 0) (.node (nB 0) (lA (nB 0) 12) (fA 13)) (lA (nB 0) 13)) (.node (nB 0) (lA (nB 0) 13) (lA (nB 0) 13))))))) (.node (nB 255)
  (.node (nB 0) (.node (nB 0) (.node (nB 0) (.node (nB 0) (.node (nB 0) (.node (nB 0) (lA (nB 0) 12) (fA 13)) (lA (nB 0) 13)) (.node (nB 0) (.node (nB 0) (lA (nB 0) 12) (fA 13)) (lA
  (nB 0) 13))) (.node (nB 0) (.node (nB 0) (.node (nB 0) (lA (nB 0) 12) (fA 13)) (lA (nB 0) 13)) (.node (nB 0) (.node (nB 0) (lA (nB 0) 12) (fA 13)) (lA (nB 0) 13)))) (.node (nB 0)
  (.node (nB 0) (.node (nB 0) (.node (nB 0) (lA (nB 0) 12) (fA 13)) (lA (nB 0) 13)) (.node (nB 0) (.node (nB 0) (lA (nB 0) 12) (fA 13)) (lA (nB 0) 13))) (.node (nB 0) (.node (nB 0)
  (.node (nB 0) (lA (nB 0) 12) (fA 13)) (lA (nB 0) 13)) (.node (nB 0) (.node (nB 0) (lA (nB 0) 12) (fA 13)) (lA (nB 0) 13))))) (.node (nB 0) (.node (nB 0) (.node (nB 0) (.node (nB 0)
  (.node (nB 0) (lA (nB 0) 12) (fA 13)) (lA (nB 0) 13)) (.node (nB 0) (.node (nB 0) (lA (nB 0) 12) (fA 13)) (lA (nB 0) 13))) (.node (nB 0) (.node (nB 0) (.node (nB 0) (lA (nB 0) 12)
  (fA 13)) (lA (nB 0) 13)) (.node (nB 0) (.node (nB 0) (lA (nB 0) 12) (fA 13)) (lA (nB 0) 13)))) (.node (nB 0) (.node (nB 0) (.node (nB 0) (.node (nB 0) (lA (nB 0) 12) (fA 13)) (lA
  (nB 0) 13)) (.node (nB 0) (.node (nB 0) (lA (nB 0) 12) (fA 13)) (lA (nB 0) 13))) (.node (nB 0) (.node (nB 0) (.node (nB 0) (lA (nB 0) 12) (fA 13)) (lA (nB 0) 13)) (.node (nB 0) (lA
  (nB 0) 13) (lA (nB 0) 13)))))) (.node (nB 0) (.node (nB 0) (.node (nB 0) (.node (nB 0) (.node (nB 0) (.node (nB 0) (lA (nB 0) 12) (fA 13)) (lA (nB 0) 13)) (.node (nB 0) (.node (nB
  0) (lA (nB 0) 12) (fA 13)) (lA (nB 0) 13))) (.node (nB 0) (.node (nB 0) (.node (nB 0) (lA (nB 0) 12) (fA 13)) (lA (nB 0) 13)) (.node (nB 0) (.node (nB 0) (lA (nB 0) 12) (fA 13))
  (lA (nB 0) 13)))) (.node (nB 0) (.node (nB 0) (.node (nB 0) (.node (nB 0) (lA (nB 0) 12) (fA 13)) (lA (nB 0) 13)) (.node (nB 0) (.node (nB 0) (lA (nB 0) 12) (fA 13)) (lA (nB 0)
  13))) (.node (nB 0) (.node (nB 0) (.node (nB 0) (lA (nB 0) 12) (fA 13)) (lA (nB 0) 13)) (.node (nB 0) (.node (nB 0) (lA (nB 0) 12) (fA 13)) (lA (nB 0) 13))))) (.node (nB 0) (.node
  (nB 0) (.node (nB 0) (.node (nB 0) (.node (nB 0) (lA (nB 0) 12) (fA 13)) (lA (nB 0) 13)) (.node (nB 0) (.node (nB 0) (lA (nB 0) 12) (fA 13)) (lA (nB 0) 13))) (.node (nB 0) (.node
  (nB 0) (.node (nB 0) (lA (nB 0) 12) (fA 13)) (lA (nB 0) 13)) (.node (nB 0) (.node (nB 0) (lA (nB 0) 12) (fA 13)) (lA (nB 0) 13)))) (.node (nB 0) (.node (nB 0) (.node (nB 0) (.node
  (nB 0) (lA (nB 0) 12) (fA 13)) (lA (nB 0) 13)) (.node (nB 0) (.node (nB 0) (lA (nB 0) 12) (fA 13)) (lA (nB 0) 13))) (.node (nB 0) (.node (nB 0) (.node (nB 0) (lA (nB 0) 12) (fA
  13)) (lA (nB 0) 13)) (.node (nB 0) (lA (nB 0) 13) (lA (nB 0) 13))))))))) (.node (nB 65) (.node (nB 12) (.node (nB 4) (.node (nB 0) (.node (nB 0) (.node (nB 0) (.node (nB 0) (.node
  (nB 0) (.node (nB 0) (lA (nB 0) 12) (fA 13)) (lA (nB 0) 13)) (.node (nB 0) (.node (nB 0) (lA (nB 0) 12) (fA 13)) (lA (nB 0) 13))) (.node (nB 0) (.node (nB 0) (.node (nB 0) (lA (nB
  0) 12) (fA 13)) (lA (nB 0) 13)) (.node (nB 0) (.node (nB 0) (lA (nB 0) 12) (fA 13)) (lA (nB 0) 13)))) (.node (nB 0) (.node (nB 0) (.node (nB 0) (.node (nB 0) (lA (nB 0) 12) (fA
  13)) (lA (nB 0) 13)) (.node (nB 0) (.node (nB 0) (lA (nB 0) 12) (fA 13)) (lA (nB 0) 13))) (.node (nB 0) (.node (nB 0) (.node (nB 0) (lA (nB 0) 12) (fA 13)) (lA (nB 0) 13)) (.node
  (nB 0) (.node (nB 0) (lA (nB 0) 12) (fA 13)) (lA (nB 0) 13))))) (.node (nB 0) (.node (nB 0) (.node (nB 0) (.node (nB 0) (.node (nB 0) (lA (nB 0) 12) (fA 13)) (lA (nB 0) 13)) (.node
  (nB 0) (.node (nB 0) (lA (nB 0) 12) (fA 13)) (lA (nB 0) 13))) (.node (nB 0) (.node (nB 0) (.node (nB 0) (lA (nB 0) 12) (fA 13)) (lA (nB 0) 13)) (.node (nB 0) (.node (nB 0) (lA (nB
  0) 12) (fA 13)) (lA (nB 0) 13)))) (.node (nB 0) (.node (nB 0) (.node (nB 0) (.node (nB 4) (lA (nB 0) 12) (fA 13)) (lA (nB 0) 13)) (.node (nB 0) (.node (nB 0) (lA (nB 0) 12) (fA
  13)) (lA (nB 0) 13))) (.node (nB 0) (.node (nB 0) (.node (nB 0) (lA (nB 0) 12) (fA 13)) (lA (nB 0) 13)) (.node (nB 0) (lA (nB 0) 13) (lA (nB 0) 13)))))) (.node (nB 0) (.node (nB 0)
  (.node (nB 0) (.node (nB 0) (.node (nB 0) (.node (nB 0) (lA (nB 0) 12) (fA 13)) (lA (nB 0) 13)) (.node (nB 0) (.node (nB 0) (lA (nB 0) 12) (fA 13)) (lA (nB 0) 13))) (.node (nB 0)
  (.node (nB 0) (.node (nB 0) (lA (nB 0) 12) (fA 13)) (lA (nB 0) 13)) (.node (nB 0) (.node (nB 0) (lA (nB 0) 12) (fA 13)) (lA (nB 0) 13)))) (.node (nB 0) (.node (nB 0) (.node (nB 0)
  (.node (nB 0) (lA (nB 0) 12) (fA 13)) (lA (nB 0) 13)) (.node (nB 0) (.node (nB 0) (lA (nB 0) 12) (fA 13)) (lA (nB 0) 13))) (.node (nB 0) (.node (nB 0) (.node (nB 0) (lA (nB 0) 12)
  (fA 13)) (lA (nB 0) 13)) (.node (nB 0) (.node (nB 0) (lA (nB 0) 12) (fA 13)) (lA (nB 0) 13))))) (.node (nB 0) (.node (nB 0) (.node (nB 0) (.node (nB 0) (.node (nB 0) (lA (nB 0) 12)
  (fA 13)) (lA (nB 0) 13)) (.node (nB 0) (.node (nB 0) (lA (nB 0) 12) (fA 13)) (lA (nB 0) 13))) (.node (nB 0) (.node (nB 0) (.node (nB 0) (lA (nB 0) 12) (fA 13)) (lA (nB 0) 13))
  (.node (nB 0) (.node (nB 0) (lA (nB 0) 12) (fA 13)) (lA (nB 0) 13)))) (.node (nB 0) (.node (nB 0) (.node (nB 0) (.node (nB 0) (lA (nB 0) 12) (fA 13)) (lA (nB 0) 13)) (.node (nB 0)
  (.node (nB 0) (lA (nB 0) 12) (fA 13)) (lA (nB 0) 13))) (.node (nB 0) (.node (nB 0) (.node (nB 0) (lA (nB 0) 12) (fA 13)) (lA (nB 0) 13)) (.node (nB 0) (lA (nB 0) 13) (lA (nB 0)
  13))))))) (.node (nB 243) (.node (nB 0) (.node (nB 0) (.node (nB 0) (.node (nB 0) (.node (nB 0) (.node (nB 0) (lA (nB 0) 12) (fA 13)) (lA (nB 0) 13)) (.node (nB 0) (.node (nB 0)
  (lA (nB 0) 12) (fA 13)) (lA (nB 0) 13))) (.node (nB 0) (.node (nB 0) (.node (nB 0) (lA (nB 0) 12) (fA 13)) (lA (nB 0) 13)) (.node (nB 0) (.node (nB 0) (lA (nB 0) 12) (fA 13)) (lA
  (nB 0) 13)))) (.node (nB 0) (.node (nB 0) (.node (nB 0) (.node (nB 0) (lA (nB 0) 12) (fA 13)) (lA (nB 0) 13)) (.node (nB 0) (.node (nB 0) (lA (nB 0) 12) (fA 13)) (lA (nB 0) 13)))
  (.node (nB 0) (.node (nB 0) (.node (nB 0) (lA (nB 0) 12) (fA 13)) (lA (nB 0) 13)) (.node (nB 0) (.node (nB 0) (lA (nB 0) 12) (fA 13)) (lA (nB 0) 13))))) (.node (nB 0) (.node (nB 0)
  (.node (nB 0) (.node (nB 0) (.node (nB 0) (lA (nB 0) 12) (fA 13)) (lA (nB 0) 13)) (.node (nB 0) (.node (nB 0) (lA (nB 0) 12) (fA 13)) (lA (nB 0) 13))) (.node (nB 0) (.node (nB 0)
  (.node (nB 0) (lA (nB 0) 12) (fA 13)) (lA (nB 0) 13)) (.node (nB 0) (.node (nB 0) (lA (nB 0) 12) (fA 13)) (lA (nB 0) 13)))) (.node (nB 0) (.node (nB 0) (.node (nB 0) (.node (nB 0)
  (lA (nB 0) 12) (fA 13)) (lA (nB 0) 13)) (.node (nB 0) (.node (nB 0) (lA (nB 0) 12) (fA 13)) (lA (nB 0) 13))) (.node (nB 0) (.node (nB 0) (.node (nB 0) (lA (nB 0) 12) (fA 13)) (lA
  (nB 0) 13)) (.node (nB 0) (lA (nB 0) 13) (lA (nB 0) 13)))))) (.node (nB 0) (.node (nB 0) (.node (nB 0) (.node (nB 0) (.node (nB 0) (.node (nB 0) (lA (nB 0) 12) (fA 13)) (lA (nB 0)
  13)) (.node (nB 0) (.node (nB 0) (lA (nB 0) 12) (fA 13)) (lA (nB 0) 13))) (.node (nB 0) (.node (nB 0) (.node (nB 0) (lA (nB 0) 12) (fA 13)) (lA (nB 0) 13)) (.node (nB 0) (.node (nB
  0) (lA (nB 0) 12) (fA 13)) (lA (nB 0) 13)))) (.node (nB 0) (.node (nB 0) (.node (nB 0) (.node (nB 0) (lA (nB 0) 12) (fA 13)) (lA (nB 0) 13)) (.node (nB 0) (.node (nB 0) (lA (nB 0)
  12) (fA 13)) (lA (nB 0) 13))) (.node (nB 0) (.node (nB 0) (.node (nB 0) (lA (nB 0) 12) (fA 13)) (lA (nB 0) 13)) (.node (nB 0) (.node (nB 0) (lA (nB 0) 12) (fA 13)) (lA (nB 0)
  13))))) (.node (nB 0) (.node (nB 0) (.node (nB 0) (.node (nB 0) (.node (nB 0) (lA (nB 0) 12) (fA 13)) (lA (nB 0) 13)) (.node (nB 0) (.node (nB 0) (lA (nB 0) 12) (fA 13)) (lA (nB 0)
  13))) (.node (nB 0) (.node (nB 0) (.node (nB 0) (lA (nB 0) 12) (fA 13)) (lA (nB 0) 13)) (.node (nB 0) (.node (nB 0) (lA (nB 0) 12) (fA 13)) (lA (nB 0) 13)))) (.node (nB 0) (.node
  (nB 0) (.node (nB 0) (.node (nB 0) (lA (nB 0) 12) (fA 13)) (lA (nB 0) 13)) (.node (nB 0) (.node (nB 0) (lA (nB 0) 12) (fA 13)) (lA (nB 0) 13))) (.node (nB 0) (.node (nB 0) (.node
  (nB 0) (lA (nB 0) 12) (fA 13)) (lA (nB 0) 13)) (.node (nB 0) (lA (nB 0) 13) (lA (nB 0) 13)))))))) (.node (nB 0) (.node (nB 0) (.node (nB 0) (.node (nB 0) (.node (nB 0) (.node (nB
  0) (.node (nB 0) (.node (nB 0) (lA (nB 0) 12) (fA 13)) (lA (nB 0) 13)) (.node (nB 0) (.node (nB 0) (lA (nB 0) 12) (fA 13)) (lA (nB 0) 13))) (.node (nB 0) (.node (nB 0) (.node (nB
  0) (lA (nB 0) 12) (fA 13)) (lA (nB 0) 13)) (.node (nB 0) (.node (nB 0) (lA (nB 0) 12) (fA 13)) (lA (nB 0) 13)))) (.node (nB 0) (.node (nB 0) (.node (nB 0) (.node (nB 86) (lA (nB 0)
  12) (fA 13)) (lA (nB 0) 13)) (.node (nB 0) (.node (nB 0) (lA (nB 0) 12) (fA 13)) (lA (nB 0) 13))) (.node (nB 0) (.node (nB 0) (.node (nB 0) (lA (nB 0) 12) (fA 13)) (lA (nB 0) 13))
  (.node (nB 0) (.node (nB 0) (lA (nB 0) 12) (fA 13)) (lA (nB 0) 13))))) (.node (nB 0) (.node (nB 0) (.node (nB 0) (.node (nB 0) (.node (nB 0) (lA (nB 0) 12) (fA 13)) (lA (nB 0) 13))
  (.node (nB 0) (.node (nB 0) (lA (nB 0) 12) (fA 13)) (lA (nB 0) 13))) (.node (nB 0) (.node (nB 0) (.node (nB 0) (lA (nB 0) 12) (fA 13)) (lA (nB 0) 13)) (.node (nB 0) (.node (nB 0)
  (lA (nB 0) 12) (fA 13)) (lA (nB 0) 13)))) (.node (nB 0) (.node (nB 0) (.node (nB 0) (.node (nB 0) (lA (nB 0) 12) (fA 13)) (lA (nB 0) 13)) (.node (nB 0) (.node (nB 0) (lA (nB 0) 12)
  (fA 13)) (lA (nB 0) 13))) (.node (nB 0) (.node (nB 0) (.node (nB 0) (lA (nB 0) 12) (fA 13)) (lA (nB 0) 13)) (.node (nB 0) (lA (nB 0) 13) (lA (nB 0) 13)))))) (.node (nB 0) (.node
  (nB 0) (.node (nB 0) (.node (nB 0) (.node (nB 0) (.node (nB 0) (lA (nB 0) 12) (fA 13)) (lA (nB 0) 13)) (.node (nB 0) (.node (nB 0) (lA (nB 0) 12) (fA 13)) (lA (nB 0) 13))) (.node
  (nB 0) (.node (nB 0) (.node (nB 0) (lA (nB 0) 12) (fA 13)) (lA (nB 0) 13)) (.node (nB 0) (.node (nB 0) (lA (nB 0) 12) (fA 13)) (lA (nB 0) 13)))) (.node (nB 0) (.node (nB 0) (.node
  (nB 0) (.node (nB 0) (lA (nB 0) 12) (fA 13)) (lA (nB 0) 13)) (.node (nB 0) (.node (nB 0) (lA (nB 0) 12) (fA 13)) (lA (nB 0) 13))) (.node (nB 0) (.node (nB 0) (.node (nB 0) (lA (nB
  0) 12) (fA 13)) (lA (nB 0) 13)) (.node (nB 0) (.node (nB 0) (lA (nB 0) 12) (fA 13)) (lA (nB 0) 13))))) (.node (nB 0) (.node (nB 0) (.node (nB 0) (.node (nB 0) (.node (nB 0) (lA (nB
  0) 12) (fA 13)) (lA (nB 0) 13)) (.node (nB 0) (.node (nB 0) (lA (nB 0) 12) (fA 13)) (lA (nB 0) 13))) (.node (nB 0) (.node (nB 0) (.node (nB 0) (lA (nB 0) 12) (fA 13)) (lA (nB 0)
  13)) (.node (nB 0) (.node (nB 0) (lA (nB 0) 12) (fA 13)) (lA (nB 0) 13)))) (.node (nB 0) (.node (nB 0) (.node (nB 0) (.node (nB 0) (lA (nB 0) 12) (fA 13)) (lA (nB 0) 13)) (.node
  (nB 0) (.node (nB 0) (lA (nB 0) 12) (fA 13)) (lA (nB 0) 13))) (.node (nB 0) (.node (nB 0) (.node (nB 0) (lA (nB 0) 12) (fA 13)) (lA (nB 0) 13)) (.node (nB 0) (lA (nB 0) 13) (lA (nB
  0) 13))))))) (.node (nB 255) (.node (nB 0) (.node (nB 0) (.node (nB 0) (.node (nB 0) (.node (nB 0) (.node (nB 0) (lA (nB 0) 12) (fA 13)) (lA (nB 0) 13)) (.node (nB 0) (.node (nB 0)
  (lA (nB 0) 12) (fA 13)) (lA (nB 0) 13))) (.node (nB 0) (.node (nB 0) (.node (nB 0) (lA (nB 0) 12) (fA 13)) (lA (nB 0) 13)) (.node (nB 0) (.node (nB 0) (lA (nB 0) 12) (fA 13)) (lA
  (nB 0) 13)))) (.node (nB 0) (.node (nB 0) (.node (nB 0) (.node (nB 0) (lA (nB 0) 12) (fA 13)) (lA (nB 0) 13)) (.node (nB 0) (.node (nB 0) (lA (nB 0) 12) (fA 13)) (lA (nB 0) 13)))
  (.node (nB 0) (.node (nB 0) (.node (nB 0) (lA (nB 0) 12) (fA 13)) (lA (nB 0) 13)) (.node (nB 0) (.node (nB 0) (lA (nB 0) 12) (fA 13)) (lA (nB 0) 13))))) (.node (nB 0) (.node (nB 0)
  (.node (nB 0) (.node (nB 0) (.node (nB 0) (lA (nB 0) 12) (fA 13)) (lA (nB 0) 13)) (.node (nB 0) (.node (nB 0) (lA (nB 0) 12) (fA 13)) (lA (nB 0) 13))) (.node (nB 0) (.node (nB 0)
  (.node (nB 0) (lA (nB 0) 12) (fA 13)) (lA (nB 0) 13)) (.node (nB 0) (.node (nB 0) (lA (nB 0) 12) (fA 13)) (lA (nB 0) 13)))) (.node (nB 0) (.node (nB 0) (.node (nB 0) (.node (nB 0)
  (lA (nB 0) 12) (fA 13)) (lA (nB 0) 13)) (.node (nB 0) (.node (nB 0) (lA (nB 0) 12) (fA 13)) (lA (nB 0) 13))) (.node (nB 0) (.node (nB 0) (.node (nB 0) (lA (nB 0) 12) (fA 13)) (lA
  (nB 0) 13)) (.node (nB 0) (lA (nB 0) 13) (lA (nB 0) 13)))))) (.node (nB 0) (.node (nB 0) (.node (nB 0) (.node (nB 0) (.node (nB 0) (.node (nB 0) (lA (nB 0) 12) (fA 13)) (lA (nB 0)
  13)) (.node (nB 0) (.node (nB 0) (lA (nB 0) 12) (fA 13)) (lA (nB 0) 13))) (.node (nB 0) (.node (nB 0) (.node (nB 0) (lA (nB 0) 12) (fA 13)) (lA (nB 0) 13)) (.node (nB 0) (.node (nB
  0) (lA (nB 0) 12) (fA 13)) (lA (nB 0) 13)))) (.node (nB 0) (.node (nB 0) (.node (nB 0) (.node (nB 0) (lA (nB 0) 12) (fA 13)) (lA (nB 0) 13)) (.node (nB 0) (.node (nB 0) (lA (nB 0)
  12) (fA 13)) (lA (nB 0) 13))) (.node (nB 0) (.node (nB 0) (.node (nB 0) (lA (nB 0) 12) (fA 13)) (lA (nB 0) 13)) (.node (nB 0) (.node (nB 0) (lA (nB 0) 12) (fA 13)) (lA (nB 0)
  13))))) (.node (nB 0) (.node (nB 0) (.node (nB 0) (.node (nB 0) (.node (nB 0) (lA (nB 0) 12) (fA 13)) (lA (nB 0) 13)) (.node (nB 0) (.node (nB 0) (lA (nB 0) 12) (fA 13)) (lA (nB 0)
  13))) (.node (nB 0) (.node (nB 0) (.node (nB 0) (lA (nB 0) 12) (fA 13)) (lA (nB 0) 13)) (.node (nB 0) (.node (nB 0) (lA (nB 0) 12) (fA 13)) (lA (nB 0) 13)))) (.node (nB 0) (.node
  (nB 0) (.node (nB 0) (.node (nB 0) (lA (nB 0) 12) (fA 13)) (lA (nB 0) 13)) (.node (nB 0) (.node (nB 0) (lA (nB 0) 12) (fA 13)) (lA (nB 0) 13))) (.node (nB 0) (.node (nB 0) (.node
  (nB 0) (lA (nB 0) 12) (fA 13)) (lA (nB 0) 13)) (.node (nB 0) (lA (nB 0) 13) (lA (nB 0) 13)))))))))) (.node (nB 83) (.node (nB 70) (.node (nB 0) (.node (nB 64) (.node (nB 0) (.node
  (nB 0) (.node (nB 0) (.node (nB 0) (.node (nB 0) (.node (nB 3) (lA (nB 0) 12) (fA 13)) (lA (nB 0) 13)) (.node (nB 0) (.node (nB 0) (lA (nB 0) 12) (fA 13)) (lA (nB 0) 13))) (.node
  (nB 0) (.node (nB 0) (.node (nB 0) (lA (nB 0) 12) (fA 13)) (lA (nB 0) 13)) (.node (nB 0) (.node (nB 0) (lA (nB 0) 12) (fA 13)) (lA (nB 0) 13)))) (.node (nB 0) (.node (nB 0) (.node
  (nB 0) (.node (nB 0) (lA (nB 0) 12) (fA 13)) (lA (nB 0) 13)) (.node (nB 0) (.node (nB 0) (lA (nB 0) 12) (fA 13)) (lA (nB 0) 13))) (.node (nB 0) (.node (nB 0) (.node (nB 0) (lA (nB
  0) 12) (fA 13)) (lA (nB 0) 13)) (.node (nB 0) (.node (nB 0) (lA (nB 0) 12) (fA 13)) (lA (nB 0) 13))))) (.node (nB 0) (.node (nB 0) (.node (nB 0) (.node (nB 0) (.node (nB 0) (lA (nB
  0) 12) (fA 13)) (lA (nB 0) 13)) (.node (nB 0) (.node (nB 0) (lA (nB 0) 12) (fA 13)) (lA (nB 0) 13))) (.node (nB 0) (.node (nB 0) (.node (nB 0) (lA (nB 0) 12) (fA 13)) (lA (nB 0)
  13)) (.node (nB 0) (.node (nB 0) (lA (nB 0) 12) (fA 13)) (lA (nB 0) 13)))) (.node (nB 0) (.node (nB 0) (.node (nB 0) (.node (nB 64) (lA (nB 0) 12) (fA 13)) (lA (nB 0) 13)) (.node
  (nB 0) (.node (nB 0) (lA (nB 0) 12) (fA 13)) (lA (nB 0) 13))) (.node (nB 0) (.node (nB 0) (.node (nB 0) (lA (nB 0) 12) (fA 13)) (lA (nB 0) 13)) (.node (nB 0) (lA (nB 0) 13) (lA (nB
  0) 13)))))) (.node (nB 0) (.node (nB 0) (.node (nB 0) (.node (nB 0) (.node (nB 0) (.node (nB 0) (lA (nB 0) 12) (fA 13)) (lA (nB 0) 13)) (.node (nB 0) (.node (nB 0) (lA (nB 0) 12)
  (fA 13)) (lA (nB 0) 13))) (.node (nB 0) (.node (nB 0) (.node (nB 0) (lA (nB 0) 12) (fA 13)) (lA (nB 0) 13)) (.node (nB 0) (.node (nB 0) (lA (nB 0) 12) (fA 13)) (lA (nB 0) 13))))
  (.node (nB 0) (.node (nB 0) (.node (nB 0) (.node (nB 0) (lA (nB 0) 12) (fA 13)) (lA (nB 0) 13)) (.node (nB 0) (.node (nB 0) (lA (nB 0) 12) (fA 13)) (lA (nB 0) 13))) (.node (nB 0)
  (.node (nB 0) (.node (nB 0) (lA (nB 0) 12) (fA 13)) (lA (nB 0) 13)) (.node (nB 0) (.node (nB 0) (lA (nB 0) 12) (fA 13)) (lA (nB 0) 13))))) (.node (nB 0) (.node (nB 0) (.node (nB 0)
  (.node (nB 0) (.node (nB 0) (lA (nB 0) 12) (fA 13)) (lA (nB 0) 13)) (.node (nB 0) (.node (nB 0) (lA (nB 0) 12) (fA 13)) (lA (nB 0) 13))) (.node (nB 0) (.node (nB 0) (.node (nB 0)
  (lA (nB 0) 12) (fA 13)) (lA (nB 0) 13)) (.node (nB 0) (.node (nB 0) (lA (nB 0) 12) (fA 13)) (lA (nB 0) 13)))) (.node (nB 0) (.node (nB 0) (.node (nB 0) (.node (nB 0) (lA (nB 0) 12)
  (fA 13)) (lA (nB 0) 13)) (.node (nB 0) (.node (nB 0) (lA (nB 0) 12) (fA 13)) (lA (nB 0) 13))) (.node (nB 0) (.node (nB 0) (.node (nB 0) (lA (nB 0) 12) (fA 13)) (lA (nB 0) 13))
  (.node (nB 0) (lA (nB 0) 13) (lA (nB 0) 13))))))) (.node (nB 255) (.node (nB 0) (.node (nB 0) (.node (nB 0) (.node (nB 0) (.node (nB 0) (.node (nB 1) (lA (nB 0) 12) (fA 13)) (lA
  (nB 0) 13)) (.node (nB 0) (.node (nB 0) (lA (nB 0) 12) (fA 13)) (lA (nB 0) 13))) (.node (nB 0) (.node (nB 0) (.node (nB 0) (lA (nB 0) 12) (fA 13)) (lA (nB 0) 13)) (.node (nB 0)
  (.node (nB 0) (lA (nB 0) 12) (fA 13)) (lA (nB 0) 13)))) (.node (nB 0) (.node (nB 0) (.node (nB 0) (.node (nB 0) (lA (nB 0) 12) (fA 13)) (lA (nB 0) 13)) (.node (nB 0) (.node (nB 0)
  (lA (nB 0) 12) (fA 13)) (lA (nB 0) 13))) (.node (nB 0) (.node (nB 0) (.node (nB 0) (lA (nB 0) 12) (fA 13)) (lA (nB 0) 13)) (.node (nB 0) (.node (nB 0) (lA (nB 0) 12) (fA 13)) (lA
  (nB 0) 13))))) (.node (nB 0) (.node (nB 0) (.node (nB 0) (.node (nB 0) (.node (nB 0) (lA (nB 0) 12) (fA 13)) (lA (nB 0) 13)) (.node (nB 0) (.node (nB 0) (lA (nB 0) 12) (fA 13)) (lA
  (nB 0) 13))) (.node (nB 0) (.node (nB 0) (.node (nB 0) (lA (nB 0) 12) (fA 13)) (lA (nB 0) 13)) (.node (nB 0) (.node (nB 0) (lA (nB 0) 12) (fA 13)) (lA (nB 0) 13)))) (.node (nB 0)
  (.node (nB 0) (.node (nB 0) (.node (nB 0) (lA (nB 0) 12) (fA 13)) (lA (nB 0) 13)) (.node (nB 0) (.node (nB 0) (lA (nB 0) 12) (fA 13)) (lA (nB 0) 13))) (.node (nB 0) (.node (nB 0)
  (.node (nB 0) (lA (nB 0) 12) (fA 13)) (lA (nB 0) 13)) (.node (nB 0) (lA (nB 0) 13) (lA (nB 0) 13)))))) (.node (nB 0) (.node (nB 0) (.node (nB 0) (.node (nB 0) (.node (nB 0) (.node
  (nB 0) (lA (nB 0) 12) (fA 13)) (lA (nB 0) 13)) (.node (nB 0) (.node (nB 0) (lA (nB 0) 12) (fA 13)) (lA (nB 0) 13))) (.node (nB 0) (.node (nB 0) (.node (nB 0) (lA (nB 0) 12) (fA
  13)) (lA (nB 0) 13)) (.node (nB 0) (.node (nB 0) (lA (nB 0) 12) (fA 13)) (lA (nB 0) 13)))) (.node (nB 0) (.node (nB 0) (.node (nB 0) (.node (nB 0) (lA (nB 0) 12) (fA 13)) (lA (nB
  0) 13)) (.node (nB 0) (.node (nB 0) (lA (nB 0) 12) (fA 13)) (lA (nB 0) 13))) (.node (nB 0) (.node (nB 0) (.node (nB 0) (lA (nB 0) 12) (fA 13)) (lA (nB 0) 13)) (.node (nB 0) (.node
  (nB 0) (lA (nB 0) 12) (fA 13)) (lA (nB 0) 13))))) (.node (nB 0) (.node (nB 0) (.node (nB 0) (.node (nB 0) (.node (nB 0) (lA (nB 0) 12) (fA 13)) (lA (nB 0) 13)) (.node (nB 0) (.node
  (nB 0) (lA (nB 0) 12) (fA 13)) (lA (nB 0) 13))) (.node (nB 0) (.node (nB 0) (.node (nB 0) (lA (nB 0) 12) (fA 13)) (lA (nB 0) 13)) (.node (nB 0) (.node (nB 0) (lA (nB 0) 12) (fA
  13)) (lA (nB 0) 13)))) (.node (nB 0) (.node (nB 0) (.node (nB 0) (.node (nB 0) (lA (nB 0) 12) (fA 13)) (lA (nB 0) 13)) (.node (nB 0) (.node (nB 0) (lA (nB 0) 12) (fA 13)) (lA (nB
  0) 13))) (.node (nB 0) (.node (nB 0) (.node (nB 0) (lA (nB 0) 12) (fA 13)) (lA (nB 0) 13)) (.node (nB 0) (lA (nB 0) 13) (lA (nB 0) 13)))))))) (.node (nB 0) (.node (nB 0) (.node (nB
  0) (.node (nB 0) (.node (nB 0) (.node (nB 0) (.node (nB 0) (.node (nB 0) (lA (nB 0) 12) (fA 13)) (lA (nB 0) 13)) (.node (nB 0) (.node (nB 0) (lA (nB 0) 12) (fA 13)) (lA (nB 0)
  13))) (.node (nB 0) (.node (nB 0) (.node (nB 0) (lA (nB 0) 12) (fA 13)) (lA (nB 0) 13)) (.node (nB 0) (.node (nB 0) (lA (nB 0) 12) (fA 13)) (lA (nB 0) 13)))) (.node (nB 0) (.node
  (nB 0) (.node (nB 0) (.node (nB 69) (lA (nB 0) 12) (fA 13)) (lA (nB 0) 13)) (.node (nB 0) (.node (nB 0) (lA (nB 0) 12) (fA 13)) (lA (nB 0) 13))) (.node (nB 0) (.node (nB 0) (.node
  (nB 0) (lA (nB 0) 12) (fA 13)) (lA (nB 0) 13)) (.node (nB 0) (.node (nB 0) (lA (nB 0) 12) (fA 13)) (lA (nB 0) 13))))) (.node (nB 0) (.node (nB 0) (.node (nB 0) (.node (nB 0) (.node
  (nB 0) (lA (nB 0) 12) (fA 13)) (lA (nB 0) 13)) (.node (nB 0) (.node (nB 0) (lA (nB 0) 12) (fA 13)) (lA (nB 0) 13))) (.node (nB 0) (.node (nB 0) (.node (nB 0) (lA (nB 0) 12) (fA
  13)) (lA (nB 0) 13)) (.node (nB 0) (.node (nB 0) (lA (nB 0) 12) (fA 13)) (lA (nB 0) 13)))) (.node (nB 0) (.node (nB 0) (.node (nB 0) (.node (nB 0) (lA (nB 0) 12) (fA 13)) (lA (nB
  0) 13)) (.node (nB 0) (.node (nB 0) (lA (nB 0) 12) (fA 13)) (lA (nB 0) 13))) (.node (nB 0) (.node (nB 0) (.node (nB 0) (lA (nB 0) 12) (fA 13)) (lA (nB 0) 13)) (.node (nB 0) (lA (nB
  0) 13) (lA (nB 0) 13)))))) (.node (nB 0) (.node (nB 0) (.node (nB 0) (.node (nB 0) (.node (nB 0) (.node (nB 0) (lA (nB 0) 12) (fA 13)) (lA (nB 0) 13)) (.node (nB 0) (.node (nB 0)
  (lA (nB 0) 12) (fA 13)) (lA (nB 0) 13))) (.node (nB 0) (.node (nB 0) (.node (nB 0) (lA (nB 0) 12) (fA 13)) (lA (nB 0) 13)) (.node (nB 0) (.node (nB 0) (lA (nB 0) 12) (fA 13)) (lA
  (nB 0) 13)))) (.node (nB 0) (.node (nB 0) (.node (nB 0) (.node (nB 0) (lA (nB 0) 12) (fA 13)) (lA (nB 0) 13)) (.node (nB 0) (.node (nB 0) (lA (nB 0) 12) (fA 13)) (lA (nB 0) 13)))
  (.node (nB 0) (.node (nB 0) (.node (nB 0) (lA (nB 0) 12) (fA 13)) (lA (nB 0) 13)) (.node (nB 0) (.node (nB 0) (lA (nB 0) 12) (fA 13)) (lA (nB 0) 13))))) (.node (nB 0) (.node (nB 0)
  (.node (nB 0) (.node (nB 0) (.node (nB 0) (lA (nB 0) 12) (fA 13)) (lA (nB 0) 13)) (.node (nB 0) (.node (nB 0) (lA (nB 0) 12) (fA 13)) (lA (nB 0) 13))) (.node (nB 0) (.node (nB 0)
  (.node (nB 0) (lA (nB 0) 12) (fA 13)) (lA (nB 0) 13)) (.node (nB 0) (.node (nB 0) (lA (nB 0) 12) (fA 13)) (lA (nB 0) 13)))) (.node (nB 0) (.node (nB 0) (.node (nB 0) (.node (nB 0)
  (lA (nB 0) 12) (fA 13)) (lA (nB 0) 13)) (.node (nB 0) (.node (nB 0) (lA (nB 0) 12) (fA 13)) (lA (nB 0) 13))) (.node (nB 0) (.node (nB 0) (.node (nB 0) (lA (nB 0) 12) (fA 13)) (lA
  (nB 0) 13)) (.node (nB 0) (lA (nB 0) 13) (lA (nB 0) 13))))))) (.node (nB 255) (.node (nB 0) (.node (nB 0) (.node (nB 0) (.node (nB 0) (.node (nB 0) (.node (nB 0) (lA (nB 0) 12) (fA
  13)) (lA (nB 0) 13)) (.node (nB 0) (.node (nB 0) (lA (nB 0) 12) (fA 13)) (lA (nB 0) 13))) (.node (nB 0) (.node (nB 0) (.node (nB 0) (lA (nB 0) 12) (fA 13)) (lA (nB 0) 13)) (.node
  (nB 0) (.node (nB 0) (lA (nB 0) 12) (fA 13)) (lA (nB 0) 13)))) (.node (nB 0) (.node (nB 0) (.node (nB 0) (.node (nB 0) (lA (nB 0) 12) (fA 13)) (lA (nB 0) 13)) (.node (nB 0) (.node
  (nB 0) (lA (nB 0) 12) (fA 13)) (lA (nB 0) 13))) (.node (nB 0) (.node (nB 0) (.node (nB 0) (lA (nB 0) 12) (fA 13)) (lA (nB 0) 13)) (.node (nB 0) (.node (nB 0) (lA (nB 0) 12) (fA
  13)) (lA (nB 0) 13))))) (.node (nB 0) (.node (nB 0) (.node (nB 0) (.node (nB 0) (.node (nB 0) (lA (nB 0) 12) (fA 13)) (lA (nB 0) 13)) (.node (nB 0) (.node (nB 0) (lA (nB 0) 12) (fA
  13)) (lA (nB 0) 13))) (.node (nB 0) (.node (nB 0) (.node (nB 0) (lA (nB 0) 12) (fA 13)) (lA (nB 0) 13)) (.node (nB 0) (.node (nB 0) (lA (nB 0) 12) (fA 13)) (lA (nB 0) 13)))) (.node
  (nB 0) (.node (nB 0) (.node (nB 0) (.node (nB 0) (lA (nB 0) 12) (fA 13)) (lA (nB 0) 13)) (.node (nB 0) (.node (nB 0) (lA (nB 0) 12) (fA 13)) (lA (nB 0) 13))) (.node (nB 0) (.node
  (nB 0) (.node (nB 0) (lA (nB 0) 12) (fA 13)) (lA (nB 0) 13)) (.node (nB 0) (lA (nB 0) 13) (lA (nB 0) 13)))))) (.node (nB 0) (.node (nB 0) (.node (nB 0) (.node (nB 0) (.node (nB 0)
  (.node (nB 0) (lA (nB 0) 12) (fA 13)) (lA (nB 0) 13)) (.node (nB 0) (.node (nB 0) (lA (nB 0) 12) (fA 13)) (lA (nB 0) 13))) (.node (nB 0) (.node (nB 0) (.node (nB 0) (lA (nB 0) 12)
  (fA 13)) (lA (nB 0) 13)) (.node (nB 0) (.node (nB 0) (lA (nB 0) 12) (fA 13)) (lA (nB 0) 13)))) (.node (nB 0) (.node (nB 0) (.node (nB 0) (.node (nB 0) (lA (nB 0) 12) (fA 13)) (lA
  (nB 0) 13)) (.node (nB 0) (.node (nB 0) (lA (nB 0) 12) (fA 13)) (lA (nB 0) 13))) (.node (nB 0) (.node (nB 0) (.node (nB 0) (lA (nB 0) 12) (fA 13)) (lA (nB 0) 13)) (.node (nB 0)
  (.node (nB 0) (lA (nB 0) 12) (fA 13)) (lA (nB 0) 13))))) (.node (nB 0) (.node (nB 0) (.node (nB 0) (.node (nB 0) (.node (nB 0) (lA (nB 0) 12) (fA 13)) (lA (nB 0) 13)) (.node (nB 0)
  (.node (nB 0) (lA (nB 0) 12) (fA 13)) (lA (nB 0) 13))) (.node (nB 0) (.node (nB 0) (.node (nB 0) (lA (nB 0) 12) (fA 13)) (lA (nB 0) 13)) (.node (nB 0) (.node (nB 0) (lA (nB 0) 12)
  (fA 13)) (lA (nB 0) 13)))) (.node (nB 0) (.node (nB 0) (.node (nB 0) (.node (nB 0) (lA (nB 0) 12) (fA 13)) (lA (nB 0) 13)) (.node (nB 0) (.node (nB 0) (lA (nB 0) 12) (fA 13)) (lA
  (nB 0) 13))) (.node (nB 0) (.node (nB 0) (.node (nB 0) (lA (nB 0) 12) (fA 13)) (lA (nB 0) 13)) (.node (nB 0) (lA (nB 0) 13) (lA (nB 0) 13))))))))) (.node (nB 73) (.node (nB 0)
  (.node (nB 0) (.node (nB 0) (.node (nB 0) (.node (nB 0) (.node (nB 0) (.node (nB 0) (.node (nB 0) (lA (nB 0) 12) (fA 13)) (lA (nB 0) 13)) (.node (nB 0) (.node (nB 0) (lA (nB 0) 12)
  (fA 13)) (lA (nB 0) 13))) (.node (nB 0) (.node (nB 0) (.node (nB 0) (lA (nB 0) 12) (fA 13)) (lA (nB 0) 13)) (.node (nB 0) (.node (nB 0) (lA (nB 0) 12) (fA 13)) (lA (nB 0) 13))))
  (.node (nB 0) (.node (nB 0) (.node (nB 0) (.node (nB 0) (lA (nB 0) 12) (fA 13)) (lA (nB 0) 13)) (.node (nB 0) (.node (nB 0) (lA (nB 0) 12) (fA 13)) (lA (nB 0) 13))) (.node (nB 0)
  (.node (nB 0) (.node (nB 0) (lA (nB 0) 12) (fA 13)) (lA (nB 0) 13)) (.node (nB 0) (.node (nB 0) (lA (nB 0) 12) (fA 13)) (lA (nB 0) 13))))) (.node (nB 0) (.node (nB 0) (.node (nB 0)
  (.node (nB 0) (.node (nB 0) (lA (nB 0) 12) (fA 13)) (lA (nB 0) 13)) (.node (nB 0) (.node (nB 0) (lA (nB 0) 12) (fA 13)) (lA (nB 0) 13))) (.node (nB 0) (.node (nB 0) (.node (nB 0)
  (lA (nB 0) 12) (fA 13)) (lA (nB 0) 13)) (.node (nB 0) (.node (nB 0) (lA (nB 0) 12) (fA 13)) (lA (nB 0) 13)))) (.node (nB 0) (.node (nB 0) (.node (nB 0) (.node (nB 0) (lA (nB 0) 12)
  (fA 13)) (lA (nB 0) 13)) (.node (nB 0) (.node (nB 0) (lA (nB 0) 12) (fA 13)) (lA (nB 0) 13))) (.node (nB 0) (.node (nB 0) (.node (nB 0) (lA (nB 0) 12) (fA 13)) (lA (nB 0) 13))
  (.node (nB 0) (lA (nB 0) 13) (lA (nB 0) 13)))))) (.node (nB 0) (.node (nB 0) (.node (nB 0) (.node (nB 0) (.node (nB 0) (.node (nB 0) (lA (nB 0) 12) (fA 13)) (lA (nB 0) 13)) (.node
  (nB 0) (.node (nB 0) (lA (nB 0) 12) (fA 13)) (lA (nB 0) 13))) (.node (nB 0) (.node (nB 0) (.node (nB 0) (lA (nB 0) 12) (fA 13)) (lA (nB 0) 13)) (.node (nB 0) (.node (nB 0) (lA (nB
  0) 12) (fA 13)) (lA (nB 0) 13)))) (.node (nB 0) (.node (nB 0) (.node (nB 0) (.node (nB 0) (lA (nB 0) 12) (fA 13)) (lA (nB 0) 13)) (.node (nB 0) (.node (nB 0) (lA (nB 0) 12) (fA
  13)) (lA (nB 0) 13))) (.node (nB 0) (.node (nB 0) (.node (nB 0) (lA (nB 0) 12) (fA 13)) (lA (nB 0) 13)) (.node (nB 0) (.node (nB 0) (lA (nB 0) 12) (fA 13)) (lA (nB 0) 13)))))
  (.node (nB 0) (.node (nB 0) (.node (nB 0) (.node (nB 0) (.node (nB 0) (lA (nB 0) 12) (fA 13)) (lA (nB 0) 13)) (.node (nB 0) (.node (nB 0) (lA (nB 0) 12) (fA 13)) (lA (nB 0) 13)))
  (.node (nB 0) (.node (nB 0) (.node (nB 0) (lA (nB 0) 12) (fA 13)) (lA (nB 0) 13)) (.node (nB 0) (.node (nB 0) (lA (nB 0) 12) (fA 13)) (lA (nB 0) 13)))) (.node (nB 0) (.node (nB 0)
  (.node (nB 0) (.node (nB 0) (lA (nB 0) 12) (fA 13)) (lA (nB 0) 13)) (.node (nB 0) (.node (nB 0) (lA (nB 0) 12) (fA 13)) (lA (nB 0) 13))) (.node (nB 0) (.node (nB 0) (.node (nB 0)
  (lA (nB 0) 12) (fA 13)) (lA (nB 0) 13)) (.node (nB 0) (lA (nB 0) 13) (lA (nB 0) 13))))))) (.node (nB 255) (.node (nB 0) (.node (nB 0) (.node (nB 0) (.node (nB 0) (.node (nB 0)
  (.node (nB 0) (lA (nB 0) 12) (fA 13)) (lA (nB 0) 13)) (.node (nB 0) (.node (nB 0) (lA (nB 0) 12) (fA 13)) (lA (nB 0) 13))) (.node (nB 0) (.node (nB 0) (.node (nB 0) (lA (nB 0) 12)
  (fA 13)) (lA (nB 0) 13)) (.node (nB 0) (.node (nB 0) (lA (nB 0) 12) (fA 13)) (lA (nB 0) 13)))) (.node (nB 0) (.node (nB 0) (.node (nB 0) (.node (nB 0) (lA (nB 0) 12) (fA 13)) (lA
  (nB 0) 13)) (.node (nB 0) (.node (nB 0) (lA (nB 0) 12) (fA 13)) (lA (nB 0) 13))) (.node (nB 0) (.node (nB 0) (.node (nB 0) (lA (nB 0) 12) (fA 13)) (lA (nB 0) 13)) (.node (nB 0)
  (.node (nB 0) (lA (nB 0) 12) (fA 13)) (lA (nB 0) 13))))) (.node (nB 0) (.node (nB 0) (.node (nB 0) (.node (nB 0) (.node (nB 0) (lA (nB 0) 12) (fA 13)) (lA (nB 0) 13)) (.node (nB 0)
  (.node (nB 0) (lA (nB 0) 12) (fA 13)) (lA (nB 0) 13))) (.node (nB 0) (.node (nB 0) (.node (nB 0) (lA (nB 0) 12) (fA 13)) (lA (nB 0) 13)) (.node (nB 0) (.node (nB 0) (lA (nB 0) 12)
  (fA 13)) (lA (nB 0) 13)))) (.node (nB 0) (.node (nB 0) (.node (nB 0) (.node (nB 0) (lA (nB 0) 12) (fA 13)) (lA (nB 0) 13)) (.node (nB 0) (.node (nB 0) (lA (nB 0) 12) (fA 13)) (lA
  (nB 0) 13))) (.node (nB 0) (.node (nB 0) (.node (nB 0) (lA (nB 0) 12) (fA 13)) (lA (nB 0) 13)) (.node (nB 0) (lA (nB 0) 13) (lA (nB 0) 13)))))) (.node (nB 0) (.node (nB 0) (.node
  (nB 0) (.node (nB 0) (.node (nB 0) (.node (nB 0) (lA (nB 0) 12) (fA 13)) (lA (nB 0) 13)) (.node (nB 0) (.node (nB 0) (lA (nB 0) 12) (fA 13)) (lA (nB 0) 13))) (.node (nB 0) (.node
  (nB 0) (.node (nB 0) (lA (nB 0) 12) (fA 13)) (lA (nB 0) 13)) (.node (nB 0) (.node (nB 0) (lA (nB 0) 12) (fA 13)) (lA (nB 0) 13)))) (.node (nB 0) (.node (nB 0) (.node (nB 0) (.node
  (nB 0) (lA (nB 0) 12) (fA 13)) (lA (nB 0) 13)) (.node (nB 0) (.node (nB 0) (lA (nB 0) 12) (fA 13)) (lA (nB 0) 13))) (.node (nB 0) (.node (nB 0) (.node (nB 0) (lA (nB 0) 12) (fA
  13)) (lA (nB 0) 13)) (.node (nB 0) (.node (nB 0) (lA (nB 0) 12) (fA 13)) (lA (nB 0) 13))))) (.node (nB 0) (.node (nB 0) (.node (nB 0) (.node (nB 0) (.node (nB 0) (lA (nB 0) 12) (fA
  13)) (lA (nB 0) 13)) (.node (nB 0) (.node (nB 0) (lA (nB 0) 12) (fA 13)) (lA (nB 0) 13))) (.node (nB 0) (.node (nB 0) (.node (nB 0) (lA (nB 0) 12) (fA 13)) (lA (nB 0) 13)) (.node
  (nB 0) (.node (nB 0) (lA (nB 0) 12) (fA 13)) (lA (nB 0) 13)))) (.node (nB 0) (.node (nB 0) (.node (nB 0) (.node (nB 0) (lA (nB 0) 12) (fA 13)) (lA (nB 0) 13)) (.node (nB 0) (.node
  (nB 0) (lA (nB 0) 12) (fA 13)) (lA (nB 0) 13))) (.node (nB 0) (.node (nB 0) (.node (nB 0) (lA (nB 0) 12) (fA 13)) (lA (nB 0) 13)) (.node (nB 0) (lA (nB 0) 13) (lA (nB 0) 13))))))))
  (.node (nB 0) (.node (nB 0) (.node (nB 0) (.node (nB 0) (.node (nB 0) (.node (nB 0) (.node (nB 0) (.node (nB 0) (lA (nB 0) 12) (fA 13)) (lA (nB 0) 13)) (.node (nB 0) (.node (nB 0)
  (lA (nB 0) 12) (fA 13)) (lA (nB 0) 13))) (.node (nB 0) (.node (nB 0) (.node (nB 0) (lA (nB 0) 12) (fA 13)) (lA (nB 0) 13)) (.node (nB 0) (.node (nB 0) (lA (nB 0) 12) (fA 13)) (lA
  (nB 0) 13)))) (.node (nB 0) (.node (nB 0) (.node (nB 0) (.node (nB 69) (lA (nB 0) 12) (fA 13)) (lA (nB 0) 13)) (.node (nB 0) (.node (nB 0) (lA (nB 0) 12) (fA 13)) (lA (nB 0) 13)))
  (.node (nB 0) (.node (nB 0) (.node (nB 0) (lA (nB 0) 12) (fA 13)) (lA (nB 0) 13)) (.node (nB 0) (.node (nB 0) (lA (nB 0) 12) (fA 13)) (lA (nB 0) 13))))) (.node (nB 0) (.node (nB 0)
  (.node (nB 0) (.node (nB 0) (.node (nB 0) (lA (nB 0) 12) (fA 13)) (lA (nB 0) 13)) (.node (nB 0) (.node (nB 0) (lA (nB 0) 12) (fA 13)) (lA (nB 0) 13))) (.node (nB 0) (.node (nB 0)
  (.node (nB 0) (lA (nB 0) 12) (fA 13)) (lA (nB 0) 13)) (.node (nB 0) (.node (nB 0) (lA (nB 0) 12) (fA 13)) (lA (nB 0) 13)))) (.node (nB 0) (.node (nB 0) (.node (nB 0) (.node (nB 0)
  (lA (nB 0) 12) (fA 13)) (lA (nB 0) 13)) (.node (nB 0) (.node (nB 0) (lA (nB 0) 12) (fA 13)) (lA (nB 0) 13))) (.node (nB 0) (.node (nB 0) (.node (nB 0) (lA (nB 0) 12) (fA 13)) (lA
  (nB 0) 13)) (.node (nB 0) (lA (nB 0) 13) (lA (nB 0) 13)))))) (.node (nB 0) (.node (nB 0) (.node (nB 0) (.node (nB 0) (.node (nB 0) (.node (nB 0) (lA (nB 0) 12) (fA 13)) (lA (nB 0)
  13)) (.node (nB 0) (.node (nB 0) (lA (nB 0) 12) (fA 13)) (lA (nB 0) 13))) (.node (nB 0) (.node (nB 0) (.node (nB 0) (lA (nB 0) 12) (fA 13)) (lA (nB 0) 13)) (.node (nB 0) (.node (nB
  0) (lA (nB 0) 12) (fA 13)) (lA (nB 0) 13)))) (.node (nB 0) (.node (nB 0) (.node (nB 0) (.node (nB 0) (lA (nB 0) 12) (fA 13)) (lA (nB 0) 13)) (.node (nB 0) (.node (nB 0) (lA (nB 0)
  12) (fA 13)) (lA (nB 0) 13))) (.node (nB 0) (.node (nB 0) (.node (nB 0) (lA (nB 0) 12) (fA 13)) (lA (nB 0) 13)) (.node (nB 0) (.node (nB 0) (lA (nB 0) 12) (fA 13)) (lA (nB 0)
  13))))) (.node (nB 0) (.node (nB 0) (.node (nB 0) (.node (nB 0) (.node (nB 0) (lA (nB 0) 12) (fA 13)) (lA (nB 0) 13)) (.node (nB 0) (.node (nB 0) (lA (nB 0) 12) (fA 13)) (lA (nB 0)
  13))) (.node (nB 0) (.node (nB 0) (.node (nB 0) (lA (nB 0) 12) (fA 13)) (lA (nB 0) 13)) (.node (nB 0) (.node (nB 0) (lA (nB 0) 12) (fA 13)) (lA (nB 0) 13)))) (.node (nB 0) (.node
  (nB 0) (.node (nB 0) (.node (nB 0) (lA (nB 0) 12) (fA 13)) (lA (nB 0) 13)) (.node (nB 0) (.node (nB 0) (lA (nB 0) 12) (fA 13)) (lA (nB 0) 13))) (.node (nB 0) (.node (nB 0) (.node
  (nB 0) (lA (nB 0) 12) (fA 13)) (lA (nB 0) 13)) (.node (nB 0) (lA (nB 0) 13) (lA (nB 0) 13))))))) (.node (nB 255) (.node (nB 0) (.node (nB 0) (.node (nB 0) (.node (nB 0) (.node (nB
  0) (.node (nB 0) (lA (nB 0) 12) (fA 13)) (lA (nB 0) 13)) (.node (nB 0) (.node (nB 0) (lA (nB 0) 12) (fA 13)) (lA (nB 0) 13))) (.node (nB 0) (.node (nB 0) (.node (nB 0) (lA (nB 0)
  12) (fA 13)) (lA (nB 0) 13)) (.node (nB 0) (.node (nB 0) (lA (nB 0) 12) (fA 13)) (lA (nB 0) 13)))) (.node (nB 0) (.node (nB 0) (.node (nB 0) (.node (nB 0) (lA (nB 0) 12) (fA 13))
  (lA (nB 0) 13)) (.node (nB 0) (.node (nB 0) (lA (nB 0) 12) (fA 13)) (lA (nB 0) 13))) (.node (nB 0) (.node (nB 0) (.node (nB 0) (lA (nB 0) 12) (fA 13)) (lA (nB 0) 13)) (.node (nB 0)
  (.node (nB 0) (lA (nB 0) 12) (fA 13)) (lA (nB 0) 13))))) (.node (nB 0) (.node (nB 0) (.node (nB 0) (.node (nB 0) (.node (nB 0) (lA (nB 0) 12) (fA 13)) (lA (nB 0) 13)) (.node (nB 0)
  (.node (nB 0) (lA (nB 0) 12) (fA 13)) (lA (nB 0) 13))) (.node (nB 0) (.node (nB 0) (.node (nB 0) (lA (nB 0) 12) (fA 13)) (lA (nB 0) 13)) (.node (nB 0) (.node (nB 0) (lA (nB 0) 12)
  (fA 13)) (lA (nB 0) 13)))) (.node (nB 0) (.node (nB 0) (.node (nB 0) (.node (nB 0) (lA (nB 0) 12) (fA 13)) (lA (nB 0) 13)) (.node (nB 0) (.node (nB 0) (lA (nB 0) 12) (fA 13)) (lA
  (nB 0) 13))) (.node (nB 0) (.node (nB 0) (.node (nB 0) (lA (nB 0) 12) (fA 13)) (lA (nB 0) 13)) (.node (nB 0) (lA (nB 0) 13) (lA (nB 0) 13)))))) (.node (nB 0) (.node (nB 0) (.node
  (nB 0) (.node (nB 0) (.node (nB 0) (.node (nB 0) (lA (nB 0) 12) (fA 13)) (lA (nB 0) 13)) (.node (nB 0) (.node (nB 0) (lA (nB 0) 12) (fA 13)) (lA (nB 0) 13))) (.node (nB 0) (.node
  (nB 0) (.node (nB 0) (lA (nB 0) 12) (fA 13)) (lA (nB 0) 13)) (.node (nB 0) (.node (nB 0) (lA (nB 0) 12) (fA 13)) (lA (nB 0) 13)))) (.node (nB 0) (.node (nB 0) (.node (nB 0) (.node
  (nB 0) (lA (nB 0) 12) (fA 13)) (lA (nB 0) 13)) (.node (nB 0) (.node (nB 0) (lA (nB 0) 12) (fA 13)) (lA (nB 0) 13))) (.node (nB 0) (.node (nB 0) (.node (nB 0) (lA (nB 0) 12) (fA
  13)) (lA (nB 0) 13)) (.node (nB 0) (.node (nB 0) (lA (nB 0) 12) (fA 13)) (lA (nB 0) 13))))) (.node (nB 0) (.node (nB 0) (.node (nB 0) (.node (nB 0) (.node (nB 0) (lA (nB 0) 12) (fA
  13)) (lA (nB 0) 13)) (.node (nB 0) (.node (nB 0) (lA (nB 0) 12) (fA 13)) (lA (nB 0) 13))) (.node (nB 0) (.node (nB 0) (.node (nB 0) (lA (nB 0) 12) (fA 13)) (lA (nB 0) 13)) (.node
  (nB 0) (.node (nB 0) (lA (nB 0) 12) (fA 13)) (lA (nB 0) 13)))) (.node (nB 0) (.node (nB 0) (.node (nB 0) (.node (nB 0) (lA (nB 0) 12) (fA 13)) (lA (nB 0) 13)) (.node (nB 0) (.node
  (nB 0) (lA (nB 0) 12) (fA 13)) (lA (nB 0) 13))) (.node (nB 0) (.node (nB 0) (.node (nB 0) (lA (nB 0) 12) (fA 13)) (lA (nB 0) 13)) (.node (nB 0) (lA (nB 0) 13) (lA (nB 0)
  13))))))))))) false false) 10) (fD 11)) (fD 12)) (fD 13))) (fD 15)) (fD 16)) (.node .dead (.node .dead (.node .dead (fD 14) (.node .dead (fD 13) (.node .dead (lD o1 11) (fD 12))))
  (fD 15)) (fD 16))) (fD 18))))) (.node .dead (.node .dead (.node .dead (.node (.cells 5 1 64 (fB 24) true false) (fD 18) (.node .dead (fD 17) (.node .dead (.node .dead (.node .dead
  (fD 14) (.node .dead (lD o1 12) (fD 13))) (fD 15)) (fD 16)))) (.node .dead (.node .dead (fD 17) (.node .dead (.node .dead (fD 15) (.node .dead (fD 14) (lD (.cells 106 12 12 (.node
  (nI 1) (.node (nI 0) (.node (nI 0) (lA (.str (bs [])) 20) (lA (nI 0) 20)) (.node (nU 0) (lA (nI 0) 20) (fA 21))) (.node (nI 0) (.node (nU 0) (lA (nU 0) 20) (fA 21)) (.node (nI 0)
  (lA .nilsl 20) (fA 21)))) true false) 13))) (fD 16))) (fD 18))) (.node .dead (fD 19) (.node .dead (.node .dead (fD 17) (.node .dead (.node .dead (.node .dead (fD 14) (.node .dead
  (fD 13) (.node .dead (lD o21 11) (fD 12)))) (fD 15)) (fD 16))) (fD 18)))) (.node .dead (.node .dead (.node .dead (.node .dead (fD 17) (.node .dead (fD 16) (.node .dead (fD 15) (lD
  o15 14)))) (fD 18)) (.node .dead (lD (.cells 31 10 10 (.node (.ptr 61 0) (.node (nI 1) (.node (nI 0) (lA .nil 20) (fA 21)) (.node (.bool false) (lA .nilfn 20) (fA 21))) (.node (nI
  1) (.node .nilsl (lA .nil 20) (fA 21)) (lA .nilsl 21))) true false) 17) (fD 18))) (.node .dead (fD 19) (.node (.cells 114 7 7 (.node (.sl 84 0 0 8 (.u 84 0)) (.node (.sl 82 0 0 8
  (.u 82 0)) (lA (nU 0) 21) (lA (nU 0) 21)) (.node (.map 60) (lA (nU 0) 21) (lA (nU 0) 21))) true false) (.node o1 (fD 17) (.node .dead (.node .dead (.node .dead (fD 14) (.node .dead
  (fD 13) (.node .dead (lD o22 11) (fD 12)))) (fD 15)) (fD 16))) (fD 18)))))) (.node .dead (.node .dead (.node .dead (.node .dead (.node .dead (.node .dead (fD 17) (lD (.cells 114 7
  7 (.node (.sl 967 0 0 384 (.u 967 0)) (.node (.sl 965 0 0 384 (.u 965 0)) (lA (nU 384) 21) (lA (nU 0) 21)) (.node (.map 191) (lA (nU 0) 21) (lA (nU 0) 21))) true false) 16)) (.node
  .dead (fD 17) (.node .dead (.node .dead (.node .dead (fD 14) (.node .dead (lD o17 12) (.node .dead (lD o15 11) (fD 12)))) (fD 15)) (fD 16)))) (fD 19)) (.node .dead (.node .dead
  (.node .dead (fD 17) (.node .dead (fD 16) (.node .dead (fD 15) (lD o40 14)))) (fD 18)) (.node .dead (.node .dead (fD 17) (.node .dead (.node .dead (fD 15) (.node .dead (fD 14) (lD
  (.cells 22 1 1 (lA (.ptr 968 0) 23) true false) 13))) (fD 16))) (fD 18)))) (.node .dead (.node .dead (.node .dead (fD 18) (lD o7 17)) (.node .dead (lD (.cells 43 1 8 (.node (nU 0)
  (.node (nU 0) (.node (nU 0) (lA (nU 0) 20) (fA 21)) (lA (nU 0) 21)) (.node (nU 0) (lA (nU 0) 21) (lA (nU 0) 21))) false false) 17) (fD 18))) (.node .dead (.node .dead (.node .dead
  (fD 17) (.node .dead (.node .dead (.node .dead (fD 14) (.node .dead (fD 13) (.node .dead (fD 12) (lD (.cells 46 1 1 (lA (nU 1088) 23) false false) 11)))) (fD 15)) (fD 16))) (fD
  18)) (.node (.map [] 0) (.node .dead (fD 17) (.node .dead (.node .dead (.node .dead (fD 14) (.node .dead (fD 13) (.node .dead (lD (.map [⟨(nI 1), (.fn (.func 33) [] []), 0⟩, ⟨(nI
  2), (.fn (.func 34) [] []), 1⟩, ⟨(nI 3), (.fn (.func 35) [] []), 2⟩, ⟨(nI 4), (.fn (.func 36) [] []), 3⟩, ⟨(nI 5), (.fn (.func 37) [] []), 4⟩, ⟨(nI 6), (.fn (.func 38) [] []), 5⟩,
  ⟨(nI 7), (.fn (.func 39) [] []), 6⟩] 7) 11) (fD 12)))) (fD 15)) (fD 16))) (fD 18))))) (.node o1 (.node .dead (.node .dead (fD 19) (.node .dead (.node (.cells 43 1 8 (.node (nU 0)
  (.node (nU 0) (.node (nU 0) (lA (nU 0) 20) (fA 21)) (lA (nU 0) 21)) (.node (nU 0) (lA (nU 0) 21) (lA (nU 0) 21))) false false) (fD 17) (.node .dead (.node .dead (fD 15) (.node
  .dead (fD 14) (lD (.cells 106 12 12 (.node (nI 1) (.node (nI 0) (.node (nI 0) (lA (.str (bs [])) 20) (lA (nI 0) 20)) (.node (nU 0) (lA (nI 0) 20) (fA 21))) (.node (nI 0) (.node (nU
  0) (lA (nU 0) 20) (fA 21)) (.node (nI 0) (lA .nilsl 20) (fA 21)))) true false) 13))) (fD 16))) (fD 18))) (.node .dead (fD 19) (.node .dead (.node .dead (.node .dead (.node .dead
  (.node .dead (fD 14) (.node .dead (.node .dead (.node .dead (lD (.cells 147 8 8 (.node (nB 0) (.node (nB 0) (.node (nB 0) (lA (nB 0) 20) (fA 21)) (lA (nB 0) 21)) (.node (nB 0) (lA
  (nB 0) 21) (lA (nB 0) 21))) true false) 10) (fD 11)) (fD 12)) (fD 13))) (fD 15)) (fD 16)) (.node .dead (.node .dead (.node .dead (fD 14) (.node .dead (fD 13) (.node .dead (lD
  (.cells 49 10 10 (.node (nI 7) (.node (nI 0) (.node (nU 0) (lA (nU 0) 20) (fA 21)) (.node (nI 0) (lA .nilsl 20) (fA 21))) (.node (nI 0) (.node (nU 0) (lA (nI 0) 20) (fA 21)) (lA
  (.str (bs [])) 21))) true false) 11) (fD 12)))) (.node .dead (fD 14) (lD o41 13))) (fD 16))) (fD 18)))) (.node .dead (fD 20) (.node .dead (fD 19) (.node .dead (.node .dead (fD 17)
  (.node .dead (.node .dead (.node .dead (fD 14) (.node .dead (lD o19 12) (.node .dead (lD (.cells 49 10 10 (.node (nI 7) (.node (nI 0) (.node (nU 0) (lA (nU 0) 20) (fA 21)) (.node
  (nI 0) (lA .nilsl 20) (fA 21))) (.node (nI 0) (.node (nU 0) (lA (nI 0) 20) (fA 21)) (lA (.str (bs [])) 21))) true false) 11) (fD 12)))) (fD 15)) (fD 16))) (fD 18))))))), 8732⟩,
 
  [.code (codeAt Tryz.f170 [1, 1, 0, 1, 0, 0, 1, 1, 1]), .lp (codeAt Tryz.f170 [1, 1, 0, 1, 0, 0]), .blk 0, .code (codeAt Tryz.f170 [1, 1, 1])]⟩
end Go.Proofs.YtakcddbpblookaaGreat.engineNil
