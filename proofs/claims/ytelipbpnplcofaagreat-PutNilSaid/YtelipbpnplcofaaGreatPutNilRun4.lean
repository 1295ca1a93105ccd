/-
  PROVED HERE: parts of the run of the evaluator from the call of PutNil, by the kernel.
  Conditions: none.
-/
import Derived.KernelRfl
import Derived.Test.YtelipbpnplcofaaGreatPutNilRun3
namespace Go.Proofs.YtelipbpnplcofaaGreat.putNil
open Go.Lev
/-- where the run stands at the end of part 4 -/
noncomputable def s4 : St :=
  ⟨⟨45, 98, [⟨(.coll 1725), []⟩], .normal, none,
  [⟨13, 37, [], .normal, none, .run, (.node (.sl 881 0 0 3072 (.k 3072)) (.node (nI 1) (.node undefV (.node undefV (lU (nI 0) 19) (fU
  20)) (lU (.tup [(.ptr 894 0), (nI 0)]) 20)) (.node (.ptr 894 0) (.node undefV (lU (.sl 881 0 0 3072 (.k 3072)) 19) (fU 20)) (lU (.tup [(.ptr 894 0), (nI 0)]) 20))) (.node undefV
  (.node .nil (fU 21) (lU (.sl 881 0 0 3072 (.k 3072)) 20)) (.node (nI 0) (fU 21) (lU (.ptr 894 0) 20)))), [.reg (opsAt Tryz.f13 [1, 1, 0]) ((opsAt Tryz.f13 [1, 1, 0]).toList.drop
  1), .code (codeAt Tryz.f13 [1, 1, 1])]⟩,
    ⟨23, 16, [], .normal, none, .run, (.node (.agg [(nI 2), .nilsl, (nI 4), (nI 0)]) (.node (nI 1) (.node undefV (lU (.ptr 882 0) 20) (lU
  (.ptr 882 0) 20)) (.node (.ptr 882 0) (lU (.bool false) 20) (lU (.sl 881 0 0 3072 (.k 3072)) 20))) (.node (.ptr 879 0) (.node .nil (lU (.ptr 882 0) 20) (lU (.ptr 882 0) 20)) (.node
  (.agg [(nI 2), .nilsl, (nI 4), (nI 0)]) (lU (.ptr 882 0) 20) (lU (nI 1) 20)))), [.reg (opsAt Tryz.f23 [1, 1, 1, 0]) ((opsAt Tryz.f23 [1, 1, 1, 0]).toList.drop 5), .code (codeAt
  Tryz.f23 [1, 1, 0, 1, 0, 1])]⟩,
    ⟨25, 60, [], .normal, none, .run, (.node (.bool false) (fU 23) (.node undefV (.node undefV (lU (.agg [(nI 2), .nilsl, (nI 4), (nI 0)]) 20) (fU
  21)) (fU 22))), [.reg (opsAt Tryz.f25 [1, 0]) ((opsAt Tryz.f25 [1, 0]).toList.drop 1), .code (codeAt Tryz.f25 [1, 1])]⟩,
    ⟨6, 100, [], .normal, none, .run, (.node (.bool false)
  (.node .nil (.node (.bool true) (.node (.ptr 1 0) (.node (.tup [(.bool true), (nI 1)]) (.node (.ptr 872 0) (lU (.bool true) 17) (lU (.bool true) 17)) (.node (.bool true) (lU (.bool
  true) 17) (fU 18))) (.node (nI 1) (.node (.tup [(.bool true), (nI 12)]) (lU (.agg [(nI 1), (.str (bs [])), .nilsl]) 17) (fU 18)) (.node (.bool true) (lU (.bool true) 17) (fU 18))))
  (.node (.ptr 873 0) (.node (nI 1) (.node (.ptr 873 0) (lU (.bool true) 17) (fU 18)) (.node (.bool true) (lU (.bool true) 17) (fU 18))) (.node (.tup [(.bool true), (nI 1)]) (.node
  (nI 12) (lU (.bool true) 17) (fU 18)) (.node (.bool true) (lU (.bool true) 17) (fU 18))))) (.node (.bool true) (.node (nI 1) (.node (.tup [(.bool true), (nI 1)]) (.node (.bool
  false) (lU (.agg [(nI 1), (.str (bs [])), .nilsl]) 17) (lU (.bool true) 17)) (.node (.bool true) (lU (nI 7) 17) (fU 18))) (.node (.tup [(.bool true), (nI 1)]) (.node (.tup [(.bool
  true), (nI 12)]) (lU (.bool true) 17) (fU 18)) (.node (.bool true) (lU (.bool true) 17) (fU 18)))) (.node (.bool true) (.node (.tup [(.bool true), (nI 1)]) (.node (.agg [(nI 7),
  (.str (bs [])), .nilsl]) (lU (.bool true) 17) (fU 18)) (.node (nI 1) (lU (.bool true) 17) (fU 18))) (.node (nI 1) (.node (.bool true) (lU (nI 1) 17) (fU 18)) (.node (.bool true)
  (lU (.agg [(nI 12), (.str (bs [])), .nilsl]) 17) (fU 18)))))) (.node (.ptr 0 0) (.node (nI 1) (.node (.bool true) (.node .nil (.node (.ptr 872 0) (lU (.ptr 1 0) 17) (lU (.bool
  true) 17)) (.node (.bool true) (lU (.bool true) 17) (fU 18))) (.node (.ptr 1 0) (.node (.ptr 873 0) (lU (nI 1) 17) (fU 18)) (.node (.bool true) (lU (nI 12) 17) (fU 18)))) (.node
  (nI 7) (.node (.tup [(.bool true), (nI 1)]) (.node (.ptr 873 0) (lU (.bool true) 17) (fU 18)) (.node (.bool true) (lU (.bool true) 17) (fU 18))) (.node (.bool true) (.node (.bool
  true) (lU (.agg [(nI 1), (.str (bs [])), .nilsl]) 17) (fU 18)) (.node (nI 1) (lU (.ptr 873 0) 17) (fU 18))))) (.node (nI 1) (.node (.ptr 872 0) (.node (.bool true) (.node (.ptr 872
  0) (lU (nI 1) 17) (fU 18)) (.node (.bool true) (lU (.bool true) 17) (fU 18))) (.node (.ptr 1 0) (.node (.bool true) (lU (.bool true) 17) (fU 18)) (.node (.bool true) (lU (.bool
  true) 17) (fU 18)))) (.node (nI 12) (.node (.bool true) (.node (nI 7) (lU .nil 17) (fU 18)) (.node (.bool true) (lU (.bool true) 17) (fU 18))) (.node (.agg [(nI 2), .nilsl, (nI 4),
  (nI 0)]) (.node (nI 1) (lU (.bool true) 17) (fU 18)) (.node (.bool true) (lU (nI 12) 17) (fU 18))))))), [.reg (opsAt Tryz.f6 [1, 1, 1, 1, 1, 1, 1, 1, 1, 1, 1, 1, 0]) ((opsAt
  Tryz.f6 [1, 1, 1, 1, 1, 1, 1, 1, 1, 1, 1, 1, 0]).toList.drop 54), .code (codeAt Tryz.f6 [1, 1, 1, 1, 1, 1, 1, 1, 0, 1, 0, 1])]⟩]⟩,
  .run,
  (.node (.sl 881 0 0 3072 (.k 3072))
  (.node undefV (.node (nI 0) (.node (nI 3) (.node (nI 3072) (.node (nI 3) (lU (.ptr 1672 0) 17) (fU 18)) (lU (nU 0) 18)) (.node (nI 2) (.node (nI 2) (lU (nI 1) 17) (fU 18)) (lU (nU
  1) 18))) (.node undefV (.node (.bool true) (.node (.ptr 1672 0) (lU (nU 1) 17) (fU 18)) (lU (nU 0) 18)) (.node (.agg [(nI 3072), (.sl 1670 0 0 3 (.k 3)), .nil, .nil, .nil, .nil,
  (.map 1671)]) (.node (nI 2) (lU (nU 1) 17) (fU 18)) (lU (.bool true) 18)))) (.node (.bool true) (.node (.ptr 1733 0) (.node (nI 2) (.node (nI 3) (lU (.sl 1670 0 0 3 (.k 3)) 17) (fU
  18)) (lU (nI 2) 18)) (.node (.sl 1670 0 0 3 (.k 3)) (.node (.bool true) (lU (nI 3) 17) (fU 18)) (lU (nI 3) 18))) (.node (.tup [(nI 2), (.bool true)]) (.node (.sl 881 0 0 3072 (.k
  3072)) (.node (.ptr 1672 5) (lU (.ptr 1670 3) 17) (fU 18)) (lU (.bool false) 18)) (.node (nI 4) (lU (nI 2) 18) (lU (.bool false) 18))))) (.node .nil (.node (nI 2) (.node (.ptr 1732
  0) (.node (.tup [(nI 2), (.bool true)]) (.node (.ptr 1672 0) (lU (.ptr 1672 1) 17) (lU (nI 1) 17)) (lU (.sl 881 0 0 3072 (.k 3072)) 18)) (.node (nI 3) (.node (nI 2) (lU (nU 3) 17)
  (fU 18)) (lU (nU 3) 18))) (.node undefV (.node (.bool false) (.node (.ptr 1672 2) (lU (.ptr 1670 2) 17) (fU 18)) (lU (nU 3) 18)) (.node (.ptr 1672 0) (.node (.sl 881 0 0 3072 (.k
  3072)) (lU (.fn (.func 151) [] [(.ptr 1724 0)]) 17) (fU 18)) (lU (.bool false) 18)))) (.node (.ptr 1673 0) (.node (nU 1) (.node (.bool true) (.node (.ptr 1677 0) (lU (nI 1) 17) (fU
  18)) (lU (nU 2056) 18)) (.node (.map 1671) (lU (nI 1) 18) (lU (nI 5) 18))) (.node (.sl 881 0 0 3072 (.k 3072)) (.node (nI 3072) (.node (nI 4) (lU (.ptr 1672 0) 17) (fU 18)) (lU
  (.bool false) 18)) (.node (.bool false) (lU (nU 2048) 18) (lU (.ptr 1672 0) 18)))))),
  ⟨(.node (.cells 74 16 16 (.node .nil (.node (nI 0) (.node (.str (bs [])) (.node .nil (lA
  .nilsl 19) (fA 20)) (lA (.bool false) 20)) (.node (nU 0) (lA .nilif 20) (lA (nI 0) 20))) (.node (nU 0) (.node (nU 0) (lA .nil 20) (lA (nI 0) 20)) (.node .nil (lA .nilfn 20) (lA
  (.str (bs [])) 20)))) true false) (.node (.cells 74 16 16 (.node .nil (.node (nI 0) (.node (.str (bs [120])) (.node .nil (lA .nilsl 19) (fA 20)) (lA (.bool true) 20)) (.node (nU 0)
  (lA .nilif 20) (lA (nI 1) 20))) (.node (nU 1) (.node (nU 0) (lA .nil 20) (lA (nI 1) 20)) (.node .nil (lA (.fn (.func 56) [(.ptr 1 0)] []) 20) (lA (.str (bs [])) 20)))) true false)
  (.node .dead (.node .dead (.node .dead (.node .dead (fD 18) (.node .dead (.node .dead (.node .dead (fD 15) (lD (.cells 271 1 1 (lA .nilsl 23) true false) 14)) (fD 16)) (fD 17)))
  (.node .dead (fD 18) (.node .dead (fD 17) (.node .dead (.node .dead (fD 15) (lD (.cells 45 4 4 (.node (nI 2) (.node .nilsl (lA (nI 0) 21) (fA 22)) (lA (nI 4) 22)) true false) 14))
  (fD 16))))) (.node .dead (.node .dead (.node .dead (.node .dead (fD 16) (.node .dead (.node .dead (fD 14) (lD (.map [⟨(nU 1088), (nI 2), 0⟩] 1) 13)) (fD 15))) (fD 17)) (.node .dead
  (fD 17) (.node .dead (.node .dead (fD 15) (lD (.cells 255 66 66 (.node (nI 1) (.node (.map 870) (.node (nU 0) (.node (nU 0) (.node (nU 0) (.node (nU 0) (lA (nU 0) 17) (fA 18)) (lA
  (nU 0) 18)) (.node (nU 0) (lA (nU 0) 18) (lA (nU 0) 18))) (.node (nU 0) (.node (nU 0) (lA (nU 0) 18) (lA (nU 0) 18)) (.node (nU 0) (lA (nU 0) 18) (lA (nU 0) 18)))) (.node (nU 0)
  (.node (nU 0) (.node (nU 0) (.node (nU 0) (lA (nU 0) 17) (fA 18)) (lA (nU 0) 18)) (.node (nU 0) (lA (nU 0) 18) (lA (nU 0) 18))) (.node (nU 0) (.node (nU 0) (lA (nU 0) 18) (lA (nU
  0) 18)) (.node (nU 0) (lA (nU 0) 18) (lA (nU 0) 18))))) (.node (nU 0) (.node (nU 0) (.node (nU 0) (.node (nU 0) (.node (nU 0) (lA (nU 0) 17) (fA 18)) (lA (nU 0) 18)) (.node (nU 0)
  (lA (nU 0) 18) (lA (nU 0) 18))) (.node (nU 0) (.node (nU 0) (lA (nU 0) 18) (lA (nU 0) 18)) (.node (nU 0) (lA (nU 0) 18) (lA (nU 0) 18)))) (.node (nU 0) (.node (nU 0) (.node (nU 0)
  (lA (nU 0) 18) (lA (nU 0) 18)) (.node (nU 0) (lA (nU 0) 18) (lA (nU 0) 18))) (.node (nU 0) (.node (nU 0) (lA (nU 0) 18) (lA (nU 0) 18)) (.node (nU 0) (lA (nU 0) 18) (lA (nU 0)
  18)))))) true false) 14)) (fD 16)))) (fD 19))) (.node .dead (.node .dead (.node .dead (.node .dead (.node .dead (fD 16) (.node .dead (.node .dead (fD 14) (lD (.cells 25 1 384
  (.node (nU 5929342154728227142) (.node (nU 3072) (.node (nU 18446744073709548543) (.node (nU 0) (.node (nU 0) (.node (nU 0) (.node (nU 0) (.node (nU 0) (lA (nU 0) 15) (lA (nU 0)
  15)) (.node (nU 0) (lA (nU 0) 15) (fA 16))) (.node (nU 0) (.node (nU 0) (lA (nU 0) 15) (fA 16)) (.node (nU 0) (lA (nU 0) 15) (fA 16)))) (.node (nU 0) (.node (nU 0) (.node (nU 0)
  (lA (nU 0) 15) (fA 16)) (.node (nU 0) (lA (nU 0) 15) (fA 16))) (.node (nU 0) (.node (nU 0) (lA (nU 0) 15) (fA 16)) (.node (nU 0) (lA (nU 0) 15) (fA 16))))) (.node (nU 0) (.node (nU
  0) (.node (nU 0) (.node (nU 0) (lA (nU 0) 15) (fA 16)) (.node (nU 0) (lA (nU 0) 15) (fA 16))) (.node (nU 0) (.node (nU 0) (lA (nU 0) 15) (fA 16)) (.node (nU 0) (lA (nU 0) 15) (fA
  16)))) (.node (nU 0) (.node (nU 0) (.node (nU 0) (lA (nU 0) 15) (fA 16)) (.node (nU 0) (lA (nU 0) 15) (fA 16))) (.node (nU 0) (.node (nU 0) (lA (nU 0) 15) (fA 16)) (.node (nU 0)
  (lA (nU 0) 15) (fA 16)))))) (.node (nU 0) (.node (nU 0) (.node (nU 0) (.node (nU 0) (.node (nU 0) (lA (nU 0) 15) (fA 16)) (.node (nU 0) (lA (nU 0) 15) (fA 16))) (.node (nU 0)
  (.node (nU 0) (lA (nU 0) 15) (fA 16)) (.node (nU 0) (lA (nU 0) 15) (fA 16)))) (.node (nU 0) (.node (nU 0) (.node (nU 0) (lA (nU 0) 15) (fA 16)) (.node (nU 0) (lA (nU 0) 15) (fA
  16))) (.node (nU 0) (.node (nU 0) (lA (nU 0) 15) (fA 16)) (.node (nU 0) (lA (nU 0) 15) (fA 16))))) (.node (nU 0) (.node (nU 0) (.node (nU 0) (.node (nU 0) (lA (nU 0) 15) (fA 16))
  (.node (nU 0) (lA (nU 0) 15) (fA 16))) (.node (nU 0) (.node (nU 0) (lA (nU 0) 15) (fA 16)) (.node (nU 0) (lA (nU 0) 15) (fA 16)))) (.node (nU 0) (.node (nU 0) (.node (nU 0) (lA (nU
  0) 15) (fA 16)) (.node (nU 0) (lA (nU 0) 15) (fA 16))) (.node (nU 0) (.node (nU 0) (lA (nU 0) 15) (fA 16)) (.node (nU 0) (lA (nU 0) 15) (fA 16))))))) (.node (nU 0) (.node (nU 0)
  (.node (nU 0) (.node (nU 0) (.node (nU 0) (.node (nU 1) (lA (nU 0) 15) (fA 16)) (.node (nU 0) (lA (nU 0) 15) (fA 16))) (.node (nU 0) (.node (nU 0) (lA (nU 0) 15) (fA 16)) (.node
  (nU 0) (lA (nU 0) 15) (fA 16)))) (.node (nU 0) (.node (nU 0) (.node (nU 0) (lA (nU 0) 15) (fA 16)) (.node (nU 0) (lA (nU 0) 15) (fA 16))) (.node (nU 0) (.node (nU 0) (lA (nU 0) 15)
  (fA 16)) (.node (nU 0) (lA (nU 0) 15) (fA 16))))) (.node (nU 0) (.node (nU 0) (.node (nU 0) (.node (nU 0) (lA (nU 0) 15) (fA 16)) (.node (nU 0) (lA (nU 0) 15) (fA 16))) (.node (nU
  0) (.node (nU 0) (lA (nU 0) 15) (fA 16)) (.node (nU 0) (lA (nU 0) 15) (fA 16)))) (.node (nU 0) (.node (nU 0) (.node (nU 0) (lA (nU 0) 15) (fA 16)) (.node (nU 0) (lA (nU 0) 15) (fA
  16))) (.node (nU 0) (.node (nU 0) (lA (nU 0) 15) (fA 16)) (.node (nU 0) (lA (nU 0) 15) (fA 16)))))) (.node (nU 0) (.node (nU 0) (.node (nU 0) (.node (nU 0) (.node (nU 0) (lA (nU 0)
  15) (fA 16)) (.node (nU 0) (lA (nU 0) 15) (fA 16))) (.node (nU 0) (.node (nU 0) (lA (nU 0) 15) (fA 16)) (.node (nU 0) (lA (nU 0) 15) (fA 16)))) (.node (nU 0) (.node (nU 0) (.node
  (nU 0) (lA (nU 0) 15) (fA 16)) (.node (nU 0) (lA (nU 0) 15) (fA 16))) (.node (nU 0) (.node (nU 0) (lA (nU 0) 15) (fA 16)) (.node (nU 0) (lA (nU 0) 15) (fA 16))))) (.node (nU 0)
  (.node (nU 0) (.node (nU 0) (.node (nU 0) (lA (nU 0) 15) (fA 16)) (.node (nU 0) (lA (nU 0) 15) (fA 16))) (.node (nU 0) (.node (nU 0) (lA (nU 0) 15) (fA 16)) (.node (nU 0) (lA (nU
  0) 15) (fA 16)))) (.node (nU 0) (.node (nU 0) (.node (nU 0) (lA (nU 0) 15) (fA 16)) (.node (nU 0) (lA (nU 0) 15) (fA 16))) (.node (nU 0) (.node (nU 0) (lA (nU 0) 15) (fA 16))
  (.node (nU 0) (lA (nU 0) 15) (fA 16)))))))) (.node (nU 1088) (.node (nU 0) (.node (nU 0) (.node (nU 0) (.node (nU 0) (.node (nU 0) (.node (nU 3) (lA (nU 0) 15) (fA 16)) (.node (nU
  0) (lA (nU 0) 15) (fA 16))) (.node (nU 0) (.node (nU 0) (lA (nU 0) 15) (fA 16)) (.node (nU 0) (lA (nU 0) 15) (fA 16)))) (.node (nU 0) (.node (nU 0) (.node (nU 0) (lA (nU 0) 15) (fA
  16)) (.node (nU 0) (lA (nU 0) 15) (fA 16))) (.node (nU 0) (.node (nU 0) (lA (nU 0) 15) (fA 16)) (.node (nU 0) (lA (nU 0) 15) (fA 16))))) (.node (nU 0) (.node (nU 0) (.node (nU 0)
  (.node (nU 5495893775785918464) (lA (nU 0) 15) (fA 16)) (.node (nU 0) (lA (nU 0) 15) (fA 16))) (.node (nU 0) (.node (nU 0) (lA (nU 0) 15) (fA 16)) (.node (nU 0) (lA (nU 0) 15) (fA
  16)))) (.node (nU 0) (.node (nU 0) (.node (nU 0) (lA (nU 0) 15) (fA 16)) (.node (nU 0) (lA (nU 0) 15) (fA 16))) (.node (nU 0) (.node (nU 0) (lA (nU 0) 15) (fA 16)) (.node (nU 0)
  (lA (nU 0) 15) (fA 16)))))) (.node (nU 0) (.node (nU 0) (.node (nU 0) (.node (nU 0) (.node (nU 0) (lA (nU 0) 15) (fA 16)) (.node (nU 0) (lA (nU 0) 15) (fA 16))) (.node (nU 0)
  (.node (nU 0) (lA (nU 0) 15) (fA 16)) (.node (nU 0) (lA (nU 0) 15) (fA 16)))) (.node (nU 0) (.node (nU 0) (.node (nU 0) (lA (nU 0) 15) (fA 16)) (.node (nU 0) (lA (nU 0) 15) (fA
  16))) (.node (nU 0) (.node (nU 0) (lA (nU 0) 15) (fA 16)) (.node (nU 0) (lA (nU 0) 15) (fA 16))))) (.node (nU 0) (.node (nU 0) (.node (nU 0) (.node (nU 1088) (lA (nU 0) 15) (fA
  16)) (.node (nU 0) (lA (nU 0) 15) (fA 16))) (.node (nU 0) (.node (nU 0) (lA (nU 0) 15) (fA 16)) (.node (nU 0) (lA (nU 0) 15) (fA 16)))) (.node (nU 0) (.node (nU 0) (.node (nU 0)
  (lA (nU 0) 15) (fA 16)) (.node (nU 0) (lA (nU 0) 15) (fA 16))) (.node (nU 0) (.node (nU 0) (lA (nU 0) 15) (fA 16)) (.node (nU 0) (lA (nU 0) 15) (fA 16))))))) (.node (nU 0) (.node
  (nU 0) (.node (nU 0) (.node (nU 0) (.node (nU 0) (.node (nU 0) (lA (nU 0) 15) (fA 16)) (.node (nU 0) (lA (nU 0) 15) (fA 16))) (.node (nU 0) (.node (nU 0) (lA (nU 0) 15) (fA 16))
  (.node (nU 0) (lA (nU 0) 15) (fA 16)))) (.node (nU 0) (.node (nU 0) (.node (nU 0) (lA (nU 0) 15) (fA 16)) (.node (nU 0) (lA (nU 0) 15) (fA 16))) (.node (nU 0) (.node (nU 0) (lA (nU
  0) 15) (fA 16)) (.node (nU 0) (lA (nU 0) 15) (fA 16))))) (.node (nU 0) (.node (nU 0) (.node (nU 0) (.node (nU 0) (lA (nU 0) 15) (fA 16)) (.node (nU 0) (lA (nU 0) 15) (fA 16)))
  (.node (nU 0) (.node (nU 0) (lA (nU 0) 15) (fA 16)) (.node (nU 0) (lA (nU 0) 15) (fA 16)))) (.node (nU 0) (.node (nU 0) (.node (nU 0) (lA (nU 0) 15) (fA 16)) (.node (nU 0) (lA (nU
  0) 15) (fA 16))) (.node (nU 0) (.node (nU 0) (lA (nU 0) 15) (fA 16)) (.node (nU 0) (lA (nU 0) 15) (fA 16)))))) (.node (nU 0) (.node (nU 0) (.node (nU 0) (.node (nU 0) (.node (nU 0)
  (lA (nU 0) 15) (fA 16)) (.node (nU 0) (lA (nU 0) 15) (fA 16))) (.node (nU 0) (.node (nU 0) (lA (nU 0) 15) (fA 16)) (.node (nU 0) (lA (nU 0) 15) (fA 16)))) (.node (nU 0) (.node (nU
  0) (.node (nU 0) (lA (nU 0) 15) (fA 16)) (.node (nU 0) (lA (nU 0) 15) (fA 16))) (.node (nU 0) (.node (nU 0) (lA (nU 0) 15) (fA 16)) (.node (nU 0) (lA (nU 0) 15) (fA 16))))) (.node
  (nU 0) (.node (nU 0) (.node (nU 0) (.node (nU 0) (lA (nU 0) 15) (fA 16)) (.node (nU 0) (lA (nU 0) 15) (fA 16))) (.node (nU 0) (.node (nU 0) (lA (nU 0) 15) (fA 16)) (.node (nU 0)
  (lA (nU 0) 15) (fA 16)))) (.node (nU 0) (.node (nU 0) (.node (nU 0) (lA (nU 0) 15) (fA 16)) (.node (nU 0) (lA (nU 0) 15) (fA 16))) (.node (nU 0) (.node (nU 0) (lA (nU 0) 15) (fA
  16)) (.node (nU 0) (lA (nU 0) 15) (fA 16))))))))) false false) 13)) (fD 15))) (fD 17)) (fD 18)) (fD 19)) (.node .dead (.node .dead (.node .dead (.node .dead (fD 16) (.node .dead
  (.node .dead (fD 14) (lD (.cells 271 1 1 (lA .nilsl 23) true false) 13)) (fD 15))) (fD 17)) (fD 18)) (.node .dead (.node .dead (.node .dead (.node .dead (fD 15) (lD (.cells 198 7 7
  (.node (nI 3072) (.node (.sl 793 0 0 3 (.k 3)) (lA (.ptr 798 0) 21) (lA (.ptr 800 0) 21)) (.node (.ptr 797 0) (lA (.ptr 799 0) 21) (lA (.map 794) 21))) true false) 14)) (fD 16))
  (fD 17)) (.node .dead (.node .dead (fD 16) (.node .dead (.node .dead (fD 14) (lD (.cells 26 1 5 (.node (nU 1280) (.node (nU 1664) (lA (nU 1856) 21) (fA 22)) (.node (nU 1472) (lA
  (nU 1088) 21) (fA 22))) false false) 13)) (fD 15))) (fD 17)))))) (.node .dead (.node .dead (.node (.cells 128 7 7 (.node (.sl 792 0 0 384 (.u 792 0)) (.node (.sl 790 0 0 384 (.u
  790 0)) (lA (nU 0) 21) (lA (nU 0) 21)) (.node (.map 16) (lA (nU 0) 21) (lA (nU 0) 21))) true false) (fD 19) (.node .dead (fD 18) (.node .dead (fD 17) (.node .dead (.node .dead (fD
  15) (lD (.cells 5 1 3072 (.node (nB 70) (.node (nB 65) (.node (nB 84) (.node (nB 82) (.node (nB 0) (.node (nB 255) (.node (nB 0) (.node (nB 0) (.node (nB 0) (fB 15) (lB (nB 0) 14))
  (.node (nB 0) (lB (nB 0) 14) (fB 15))) (.node (nB 0) (fB 16) (.node (nB 0) (lB (nB 0) 14) (fB 15)))) (.node (nB 0) (.node (nB 0) (fB 16) (.node (nB 0) (lB (nB 0) 14) (fB 15)))
  (.node (nB 0) (.node (nB 0) (lB (nB 0) 14) (fB 15)) (.node (nB 0) (lB (nB 0) 14) (fB 15))))) (.node (nB 0) (.node (nB 0) (.node (nB 0) (.node (nB 0) (lB (nB 0) 14) (fB 15)) (.node
  (nB 0) (lB (nB 0) 14) (fB 15))) (.node (nB 0) (.node (nB 0) (lB (nB 0) 14) (fB 15)) (.node (nB 0) (lB (nB 0) 14) (fB 15)))) (.node (nB 0) (.node (nB 0) (fB 16) (.node (nB 0) (lB
  (nB 0) 14) (fB 15))) (.node (nB 0) (.node (nB 0) (lB (nB 0) 14) (fB 15)) (.node (nB 0) (lB (nB 0) 14) (fB 15)))))) (.node (nB 0) (.node (nB 0) (.node (nB 0) (.node (nB 0) (.node
  (nB 0) (lB (nB 0) 14) (fB 15)) (.node (nB 0) (lB (nB 0) 14) (fB 15))) (.node (nB 0) (.node (nB 0) (.node (nB 0) (lB (nB 76) 13) (fB 14)) (fB 15)) (.node (nB 0) (lB (nB 0) 14) (fB
  15)))) (.node (nB 0) (.node (nB 0) (fB 16) (.node (nB 0) (lB (nB 0) 14) (fB 15))) (.node (nB 0) (.node (nB 0) (lB (nB 0) 14) (fB 15)) (.node (nB 0) (lB (nB 0) 14) (fB 15)))))
  (.node (nB 0) (.node (nB 0) (.node (nB 0) (fB 16) (.node (nB 0) (lB (nB 0) 14) (fB 15))) (.node (nB 0) (.node (nB 0) (lB (nB 0) 14) (fB 15)) (.node (nB 0) (lB (nB 0) 14) (fB 15))))
  (.node (nB 0) (.node (nB 0) (fB 16) (.node (nB 0) (lB (nB 0) 14) (fB 15))) (.node (nB 0) (.node (nB 0) (lB (nB 0) 14) (fB 15)) (.node (nB 0) (lB (nB 0) 14) (fB 15))))))) (.node (nB
  0) (.node (nB 0) (.node (nB 0) (.node (nB 0) (.node (nB 0) (.node (nB 0) (lB (nB 0) 14) (fB 15)) (.node (nB 0) (lB (nB 0) 14) (fB 15))) (.node (nB 0) (.node (nB 0) (.node (nB 0)
  (lB (nB 69) 13) (fB 14)) (fB 15)) (.node (nB 0) (lB (nB 0) 14) (fB 15)))) (.node (nB 0) (.node (nB 0) (fB 16) (.node (nB 0) (lB (nB 0) 14) (fB 15))) (.node (nB 0) (.node (nB 0) (lB
  (nB 0) 14) (fB 15)) (.node (nB 0) (lB (nB 0) 14) (fB 15))))) (.node (nB 0) (.node (nB 0) (.node (nB 0) (fB 16) (.node (nB 0) (lB (nB 0) 14) (fB 15))) (.node (nB 0) (.node (nB 0)
  (lB (nB 0) 14) (fB 15)) (.node (nB 0) (lB (nB 0) 14) (fB 15)))) (.node (nB 0) (.node (nB 0) (fB 16) (.node (nB 0) (lB (nB 0) 14) (fB 15))) (.node (nB 0) (.node (nB 0) (lB (nB 0)
  14) (fB 15)) (.node (nB 0) (lB (nB 0) 14) (fB 15)))))) (.node (nB 255) (.node (nB 0) (.node (nB 0) (.node (nB 0) (.node (nB 0) (lB (nB 0) 14) (fB 15)) (.node (nB 0) (lB (nB 0) 14)
  (fB 15))) (.node (nB 0) (.node (nB 0) (lB (nB 0) 14) (fB 15)) (.node (nB 0) (lB (nB 0) 14) (fB 15)))) (.node (nB 0) (.node (nB 0) (fB 16) (.node (nB 0) (lB (nB 0) 14) (fB 15)))
  (.node (nB 0) (.node (nB 0) (lB (nB 0) 14) (fB 15)) (.node (nB 0) (lB (nB 0) 14) (fB 15))))) (.node (nB 0) (.node (nB 0) (.node (nB 0) (fB 16) (.node (nB 0) (lB (nB 0) 14) (fB
  15))) (.node (nB 0) (.node (nB 0) (lB (nB 0) 14) (fB 15)) (.node (nB 0) (lB (nB 0) 14) (fB 15)))) (.node (nB 0) (.node (nB 0) (fB 16) (.node (nB 0) (lB (nB 0) 14) (fB 15))) (.node
  (nB 0) (.node (nB 0) (lB (nB 0) 14) (fB 15)) (.node (nB 0) (lB (nB 0) 14) (fB 15)))))))) (.node (nB 65) (.node (nB 12) (.node (nB 4) (.node (nB 0) (.node (nB 0) (.node (nB 0)
  (.node (nB 0) (lB (nB 0) 14) (fB 15)) (.node (nB 0) (lB (nB 0) 14) (fB 15))) (.node (nB 0) (.node (nB 0) (lB (nB 0) 14) (fB 15)) (.node (nB 0) (lB (nB 0) 14) (fB 15)))) (.node (nB
  0) (.node (nB 0) (fB 16) (.node (nB 0) (lB (nB 0) 14) (fB 15))) (.node (nB 0) (.node (nB 0) (.node (nB 0) (lB (nB 4) 13) (fB 14)) (fB 15)) (.node (nB 0) (lB (nB 0) 14) (fB 15)))))
  (.node (nB 0) (.node (nB 0) (.node (nB 0) (fB 16) (.node (nB 0) (lB (nB 0) 14) (fB 15))) (.node (nB 0) (.node (nB 0) (lB (nB 0) 14) (fB 15)) (.node (nB 0) (lB (nB 0) 14) (fB 15))))
  (.node (nB 0) (.node (nB 0) (fB 16) (.node (nB 0) (lB (nB 0) 14) (fB 15))) (.node (nB 0) (.node (nB 0) (lB (nB 0) 14) (fB 15)) (.node (nB 0) (lB (nB 0) 14) (fB 15)))))) (.node (nB
  243) (.node (nB 0) (.node (nB 0) (.node (nB 0) (.node (nB 0) (lB (nB 0) 14) (fB 15)) (.node (nB 0) (lB (nB 0) 14) (fB 15))) (.node (nB 0) (.node (nB 0) (lB (nB 0) 14) (fB 15))
  (.node (nB 0) (lB (nB 0) 14) (fB 15)))) (.node (nB 0) (.node (nB 0) (fB 16) (.node (nB 0) (lB (nB 0) 14) (fB 15))) (.node (nB 0) (.node (nB 0) (lB (nB 0) 14) (fB 15)) (.node (nB 0)
  (lB (nB 0) 14) (fB 15))))) (.node (nB 0) (.node (nB 0) (.node (nB 0) (fB 16) (.node (nB 0) (lB (nB 0) 14) (fB 15))) (.node (nB 0) (.node (nB 0) (lB (nB 0) 14) (fB 15)) (.node (nB
  0) (lB (nB 0) 14) (fB 15)))) (.node (nB 0) (.node (nB 0) (fB 16) (.node (nB 0) (lB (nB 0) 14) (fB 15))) (.node (nB 0) (.node (nB 0) (lB (nB 0) 14) (fB 15)) (.node (nB 0) (lB (nB 0)
  14) (fB 15))))))) (.node (nB 0) (.node (nB 0) (.node (nB 0) (.node (nB 0) (.node (nB 0) (.node (nB 0) (lB (nB 0) 14) (fB 15)) (.node (nB 0) (lB (nB 0) 14) (fB 15))) (.node (nB 0)
  (.node (nB 0) (.node (nB 0) (lB (nB 86) 13) (fB 14)) (fB 15)) (.node (nB 0) (lB (nB 0) 14) (fB 15)))) (.node (nB 0) (.node (nB 0) (fB 16) (.node (nB 0) (lB (nB 0) 14) (fB 15)))
  (.node (nB 0) (.node (nB 0) (lB (nB 0) 14) (fB 15)) (.node (nB 0) (lB (nB 0) 14) (fB 15))))) (.node (nB 0) (.node (nB 0) (.node (nB 0) (fB 16) (.node (nB 0) (lB (nB 0) 14) (fB
  15))) (.node (nB 0) (.node (nB 0) (lB (nB 0) 14) (fB 15)) (.node (nB 0) (lB (nB 0) 14) (fB 15)))) (.node (nB 0) (.node (nB 0) (fB 16) (.node (nB 0) (lB (nB 0) 14) (fB 15))) (.node
  (nB 0) (.node (nB 0) (lB (nB 0) 14) (fB 15)) (.node (nB 0) (lB (nB 0) 14) (fB 15)))))) (.node (nB 255) (.node (nB 0) (.node (nB 0) (.node (nB 0) (.node (nB 0) (lB (nB 0) 14) (fB
  15)) (.node (nB 0) (lB (nB 0) 14) (fB 15))) (.node (nB 0) (.node (nB 0) (lB (nB 0) 14) (fB 15)) (.node (nB 0) (lB (nB 0) 14) (fB 15)))) (.node (nB 0) (.node (nB 0) (fB 16) (.node
  (nB 0) (lB (nB 0) 14) (fB 15))) (.node (nB 0) (.node (nB 0) (lB (nB 0) 14) (fB 15)) (.node (nB 0) (lB (nB 0) 14) (fB 15))))) (.node (nB 0) (.node (nB 0) (.node (nB 0) (fB 16)
  (.node (nB 0) (lB (nB 0) 14) (fB 15))) (.node (nB 0) (.node (nB 0) (lB (nB 0) 14) (fB 15)) (.node (nB 0) (lB (nB 0) 14) (fB 15)))) (.node (nB 0) (.node (nB 0) (fB 16) (.node (nB 0)
  (lB (nB 0) 14) (fB 15))) (.node (nB 0) (.node (nB 0) (lB (nB 0) 14) (fB 15)) (.node (nB 0) (lB (nB 0) 14) (fB 15))))))))) (.node (nB 83) (.node (nB 70) (.node (nB 0) (.node (nB 64)
  (.node (nB 0) (.node (nB 0) (.node (nB 0) (.node (nB 0) (.node (nB 0) (lB (nB 3) 13) (fB 14)) (fB 15)) (.node (nB 0) (lB (nB 0) 14) (fB 15))) (.node (nB 0) (.node (nB 0) (lB (nB 0)
  14) (fB 15)) (.node (nB 0) (lB (nB 0) 14) (fB 15)))) (.node (nB 0) (.node (nB 0) (fB 16) (.node (nB 0) (lB (nB 0) 14) (fB 15))) (.node (nB 0) (.node (nB 0) (.node (nB 0) (lB (nB
  64) 13) (fB 14)) (fB 15)) (.node (nB 0) (lB (nB 0) 14) (fB 15))))) (.node (nB 0) (.node (nB 0) (.node (nB 0) (fB 16) (.node (nB 0) (lB (nB 0) 14) (fB 15))) (.node (nB 0) (.node (nB
  0) (lB (nB 0) 14) (fB 15)) (.node (nB 0) (lB (nB 0) 14) (fB 15)))) (.node (nB 0) (.node (nB 0) (fB 16) (.node (nB 0) (lB (nB 0) 14) (fB 15))) (.node (nB 0) (.node (nB 0) (lB (nB 0)
  14) (fB 15)) (.node (nB 0) (lB (nB 0) 14) (fB 15)))))) (.node (nB 255) (.node (nB 0) (.node (nB 0) (.node (nB 0) (.node (nB 0) (.node (nB 0) (lB (nB 1) 13) (fB 14)) (fB 15)) (.node
  (nB 0) (lB (nB 0) 14) (fB 15))) (.node (nB 0) (.node (nB 0) (lB (nB 0) 14) (fB 15)) (.node (nB 0) (lB (nB 0) 14) (fB 15)))) (.node (nB 0) (.node (nB 0) (fB 16) (.node (nB 0) (lB
  (nB 0) 14) (fB 15))) (.node (nB 0) (.node (nB 0) (lB (nB 0) 14) (fB 15)) (.node (nB 0) (lB (nB 0) 14) (fB 15))))) (.node (nB 0) (.node (nB 0) (.node (nB 0) (fB 16) (.node (nB 0)
  (lB (nB 0) 14) (fB 15))) (.node (nB 0) (.node (nB 0) (lB (nB 0) 14) (fB 15)) (.node (nB 0) (lB (nB 0) 14) (fB 15)))) (.node (nB 0) (.node (nB 0) (fB 16) (.node (nB 0) (lB (nB 0)
  14) (fB 15))) (.node (nB 0) (.node (nB 0) (lB (nB 0) 14) (fB 15)) (.node (nB 0) (lB (nB 0) 14) (fB 15))))))) (.node (nB 0) (.node (nB 0) (.node (nB 0) (.node (nB 0) (.node (nB 0)
  (.node (nB 0) (lB (nB 0) 14) (fB 15)) (.node (nB 0) (lB (nB 0) 14) (fB 15))) (.node (nB 0) (.node (nB 0) (.node (nB 0) (lB (nB 69) 13) (fB 14)) (fB 15)) (.node (nB 0) (lB (nB 0)
  14) (fB 15)))) (.node (nB 0) (.node (nB 0) (fB 16) (.node (nB 0) (lB (nB 0) 14) (fB 15))) (.node (nB 0) (.node (nB 0) (lB (nB 0) 14) (fB 15)) (.node (nB 0) (lB (nB 0) 14) (fB
  15))))) (.node (nB 0) (.node (nB 0) (.node (nB 0) (fB 16) (.node (nB 0) (lB (nB 0) 14) (fB 15))) (.node (nB 0) (.node (nB 0) (lB (nB 0) 14) (fB 15)) (.node (nB 0) (lB (nB 0) 14)
  (fB 15)))) (.node (nB 0) (.node (nB 0) (fB 16) (.node (nB 0) (lB (nB 0) 14) (fB 15))) (.node (nB 0) (.node (nB 0) (lB (nB 0) 14) (fB 15)) (.node (nB 0) (lB (nB 0) 14) (fB 15))))))
  (.node (nB 255) (.node (nB 0) (.node (nB 0) (.node (nB 0) (.node (nB 0) (lB (nB 0) 14) (fB 15)) (.node (nB 0) (lB (nB 0) 14) (fB 15))) (.node (nB 0) (.node (nB 0) (lB (nB 0) 14)
  (fB 15)) (.node (nB 0) (lB (nB 0) 14) (fB 15)))) (.node (nB 0) (.node (nB 0) (fB 16) (.node (nB 0) (lB (nB 0) 14) (fB 15))) (.node (nB 0) (.node (nB 0) (lB (nB 0) 14) (fB 15))
  (.node (nB 0) (lB (nB 0) 14) (fB 15))))) (.node (nB 0) (.node (nB 0) (.node (nB 0) (fB 16) (.node (nB 0) (lB (nB 0) 14) (fB 15))) (.node (nB 0) (.node (nB 0) (lB (nB 0) 14) (fB
  15)) (.node (nB 0) (lB (nB 0) 14) (fB 15)))) (.node (nB 0) (.node (nB 0) (fB 16) (.node (nB 0) (lB (nB 0) 14) (fB 15))) (.node (nB 0) (.node (nB 0) (lB (nB 0) 14) (fB 15)) (.node
  (nB 0) (lB (nB 0) 14) (fB 15)))))))) (.node (nB 73) (.node (nB 0) (.node (nB 0) (.node (nB 0) (.node (nB 0) (.node (nB 0) (.node (nB 0) (lB (nB 0) 14) (fB 15)) (.node (nB 0) (lB
  (nB 0) 14) (fB 15))) (.node (nB 0) (.node (nB 0) (lB (nB 0) 14) (fB 15)) (.node (nB 0) (lB (nB 0) 14) (fB 15)))) (.node (nB 0) (.node (nB 0) (fB 16) (.node (nB 0) (lB (nB 0) 14)
  (fB 15))) (.node (nB 0) (.node (nB 0) (lB (nB 0) 14) (fB 15)) (.node (nB 0) (lB (nB 0) 14) (fB 15))))) (.node (nB 0) (.node (nB 0) (.node (nB 0) (fB 16) (.node (nB 0) (lB (nB 0)
  14) (fB 15))) (.node (nB 0) (.node (nB 0) (lB (nB 0) 14) (fB 15)) (.node (nB 0) (lB (nB 0) 14) (fB 15)))) (.node (nB 0) (.node (nB 0) (fB 16) (.node (nB 0) (lB (nB 0) 14) (fB 15)))
  (.node (nB 0) (.node (nB 0) (lB (nB 0) 14) (fB 15)) (.node (nB 0) (lB (nB 0) 14) (fB 15)))))) (.node (nB 255) (.node (nB 0) (.node (nB 0) (.node (nB 0) (.node (nB 0) (lB (nB 0) 14)
  (fB 15)) (.node (nB 0) (lB (nB 0) 14) (fB 15))) (.node (nB 0) (.node (nB 0) (lB (nB 0) 14) (fB 15)) (.node (nB 0) (lB (nB 0) 14) (fB 15)))) (.node (nB 0) (.node (nB 0) (fB 16)
  (.node (nB 0) (lB (nB 0) 14) (fB 15))) (.node (nB 0) (.node (nB 0) (lB (nB 0) 14) (fB 15)) (.node (nB 0) (lB (nB 0) 14) (fB 15))))) (.node (nB 0) (.node (nB 0) (.node (nB 0) (fB
  16) (.node (nB 0) (lB (nB 0) 14) (fB 15))) (.node (nB 0) (.node (nB 0) (lB (nB 0) 14) (fB 15)) (.node (nB 0) (lB (nB 0) 14) (fB 15)))) (.node (nB 0) (.node (nB 0) (fB 16) (.node
  (nB 0) (lB (nB 0) 14) (fB 15))) (.node (nB 0) (.node (nB 0) (lB (nB 0) 14) (fB 15)) (.node (nB 0) (lB (nB 0) 14) (fB 15))))))) (.node (nB 0) (.node (nB 0) (.node (nB 0) (.node (nB
  0) (.node (nB 0) (.node (nB 0) (lB (nB 0) 14) (fB 15)) (.node (nB 0) (lB (nB 0) 14) (fB 15))) (.node (nB 0) (.node (nB 0) (.node (nB 0) (lB (nB 69) 13) (fB 14)) (fB 15)) (.node (nB
  0) (lB (nB 0) 14) (fB 15)))) (.node (nB 0) (.node (nB 0) (fB 16) (.node (nB 0) (lB (nB 0) 14) (fB 15))) (.node (nB 0) (.node (nB 0) (lB (nB 0) 14) (fB 15)) (.node (nB 0) (lB (nB 0)
  14) (fB 15))))) (.node (nB 0) (.node (nB 0) (.node (nB 0) (fB 16) (.node (nB 0) (lB (nB 0) 14) (fB 15))) (.node (nB 0) (.node (nB 0) (lB (nB 0) 14) (fB 15)) (.node (nB 0) (lB (nB
  0) 14) (fB 15)))) (.node (nB 0) (.node (nB 0) (fB 16) (.node (nB 0) (lB (nB 0) 14) (fB 15))) (.node (nB 0) (.node (nB 0) (lB (nB 0) 14) (fB 15)) (.node (nB 0) (lB (nB 0) 14) (fB
  15)))))) (.node (nB 255) (.node (nB 0) (.node (nB 0) (.node (nB 0) (.node (nB 0) (lB (nB 0) 14) (fB 15)) (.node (nB 0) (lB (nB 0) 14) (fB 15))) (.node (nB 0) (.node (nB 0) (lB (nB
  0) 14) (fB 15)) (.node (nB 0) (lB (nB 0) 14) (fB 15)))) (.node (nB 0) (.node (nB 0) (fB 16) (.node (nB 0) (lB (nB 0) 14) (fB 15))) (.node (nB 0) (.node (nB 0) (lB (nB 0) 14) (fB
  15)) (.node (nB 0) (lB (nB 0) 14) (fB 15))))) (.node (nB 0) (.node (nB 0) (.node (nB 0) (fB 16) (.node (nB 0) (lB (nB 0) 14) (fB 15))) (.node (nB 0) (.node (nB 0) (lB (nB 0) 14)
  (fB 15)) (.node (nB 0) (lB (nB 0) 14) (fB 15)))) (.node (nB 0) (.node (nB 0) (fB 16) (.node (nB 0) (lB (nB 0) 14) (fB 15))) (.node (nB 0) (.node (nB 0) (lB (nB 0) 14) (fB 15))
  (.node (nB 0) (lB (nB 0) 14) (fB 15)))))))))) true false) 14)) (fD 16))))) (.node .dead (.node .dead (.node .dead (.node .dead (fD 16) (.node .dead (.node .dead (fD 14) (lD (.cells
  118 1 1 (lA (.ptr 1672 0) 23) true false) 13)) (fD 15))) (fD 17)) (.node .dead (fD 17) (.node .dead (.node .dead (fD 15) (lD (.cells 74 16 16 (.node (.ptr 872 0) (.node (nI 1)
  (.node (.str (bs [120])) (.node .nil (lA .nilsl 19) (fA 20)) (lA (.bool true) 20)) (.node (nU 0) (lA .nilif 20) (lA (nI 12) 20))) (.node (nU 1) (.node (nU 0) (lA .nil 20) (lA (nI
  12) 20)) (.node .nil (lA (.fn (.func 56) [(.ptr 873 0)] []) 20) (lA (.str (bs [])) 20)))) true false) 14)) (fD 16)))) (.node .dead (.node .dead (.node .dead (.node .dead (fD 15)
  (lD (.cells 205 2 6 (.node (nI 0) (.node (nU 0) (lA (nU 1) 21) (lA (nU 0) 21)) (.node (nI 3) (lA (nI 0) 21) (fA 22))) true false) 14)) (fD 16)) (fD 17)) (fD 18)))) (.node .dead
  (.node .dead (.node .dead (.node .dead (.node .dead (fD 16) (.node .dead (.node .dead (fD 14) (lD (.cells 25 1 384 (.node (nU 5929342154728227142) (.node (nU 3072) (.node (nU
  18446744073709548543) (.node (nU 0) (.node (nU 0) (.node (nU 0) (.node (nU 0) (.node (nU 0) (lA (nU 0) 15) (lA (nU 0) 15)) (.node (nU 0) (lA (nU 0) 15) (fA 16))) (.node (nU 0)
  (.node (nU 0) (lA (nU 0) 15) (fA 16)) (.node (nU 0) (lA (nU 0) 15) (fA 16)))) (.node (nU 0) (.node (nU 0) (.node (nU 0) (lA (nU 0) 15) (fA 16)) (.node (nU 0) (lA (nU 0) 15) (fA
  16))) (.node (nU 0) (.node (nU 0) (lA (nU 0) 15) (fA 16)) (.node (nU 0) (lA (nU 0) 15) (fA 16))))) (.node (nU 0) (.node (nU 0) (.node (nU 0) (.node (nU 0) (lA (nU 0) 15) (fA 16))
  (.node (nU 0) (lA (nU 0) 15) (fA 16))) (.node (nU 0) (.node (nU 0) (lA (nU 0) 15) (fA 16)) (.node (nU 0) (lA (nU 0) 15) (fA 16)))) (.node (nU 0) (.node (nU 0) (.node (nU 0) (lA (nU
  0) 15) (fA 16)) (.node (nU 0) (lA (nU 0) 15) (fA 16))) (.node (nU 0) (.node (nU 0) (lA (nU 0) 15) (fA 16)) (.node (nU 0) (lA (nU 0) 15) (fA 16)))))) (.node (nU 0) (.node (nU 0)
  (.node (nU 0) (.node (nU 0) (.node (nU 0) (lA (nU 0) 15) (fA 16)) (.node (nU 0) (lA (nU 0) 15) (fA 16))) (.node (nU 0) (.node (nU 0) (lA (nU 0) 15) (fA 16)) (.node (nU 0) (lA (nU
  0) 15) (fA 16)))) (.node (nU 0) (.node (nU 0) (.node (nU 0) (lA (nU 0) 15) (fA 16)) (.node (nU 0) (lA (nU 0) 15) (fA 16))) (.node (nU 0) (.node (nU 0) (lA (nU 0) 15) (fA 16))
  (.node (nU 0) (lA (nU 0) 15) (fA 16))))) (.node (nU 0) (.node (nU 0) (.node (nU 0) (.node (nU 0) (lA (nU 0) 15) (fA 16)) (.node (nU 0) (lA (nU 0) 15) (fA 16))) (.node (nU 0) (.node
  (nU 0) (lA (nU 0) 15) (fA 16)) (.node (nU 0) (lA (nU 0) 15) (fA 16)))) (.node (nU 0) (.node (nU 0) (.node (nU 0) (lA (nU 0) 15) (fA 16)) (.node (nU 0) (lA (nU 0) 15) (fA 16)))
  (.node (nU 0) (.node (nU 0) (lA (nU 0) 15) (fA 16)) (.node (nU 0) (lA (nU 0) 15) (fA 16))))))) (.node (nU 0) (.node (nU 0) (.node (nU 0) (.node (nU 0) (.node (nU 0) (.node (nU 1)
  (lA (nU 0) 15) (fA 16)) (.node (nU 0) (lA (nU 0) 15) (fA 16))) (.node (nU 0) (.node (nU 0) (lA (nU 0) 15) (fA 16)) (.node (nU 0) (lA (nU 0) 15) (fA 16)))) (.node (nU 0) (.node (nU
  0) (.node (nU 0) (lA (nU 0) 15) (fA 16)) (.node (nU 0) (lA (nU 0) 15) (fA 16))) (.node (nU 0) (.node (nU 0) (lA (nU 0) 15) (fA 16)) (.node (nU 0) (lA (nU 0) 15) (fA 16))))) (.node
  (nU 0) (.node (nU 0) (.node (nU 0) (.node (nU 0) (lA (nU 0) 15) (fA 16)) (.node (nU 0) (lA (nU 0) 15) (fA 16))) (.node (nU 0) (.node (nU 0) (lA (nU 0) 15) (fA 16)) (.node (nU 0)
  (lA (nU 0) 15) (fA 16)))) (.node (nU 0) (.node (nU 0) (.node (nU 0) (lA (nU 0) 15) (fA 16)) (.node (nU 0) (lA (nU 0) 15) (fA 16))) (.node (nU 0) (.node (nU 0) (lA (nU 0) 15) (fA
  16)) (.node (nU 0) (lA (nU 0) 15) (fA 16)))))) (.node (nU 0) (.node (nU 0) (.node (nU 0) (.node (nU 0) (.node (nU 0) (lA (nU 0) 15) (fA 16)) (.node (nU 0) (lA (nU 0) 15) (fA 16)))
  (.node (nU 0) (.node (nU 0) (lA (nU 0) 15) (fA 16)) (.node (nU 0) (lA (nU 0) 15) (fA 16)))) (.node (nU 0) (.node (nU 0) (.node (nU 0) (lA (nU 0) 15) (fA 16)) (.node (nU 0) (lA (nU
  0) 15) (fA 16))) (.node (nU 0) (.node (nU 0) (lA (nU 0) 15) (fA 16)) (.node (nU 0) (lA (nU 0) 15) (fA 16))))) (.node (nU 0) (.node (nU 0) (.node (nU 0) (.node (nU 0) (lA (nU 0) 15)
  (fA 16)) (.node (nU 0) (lA (nU 0) 15) (fA 16))) (.node (nU 0) (.node (nU 0) (lA (nU 0) 15) (fA 16)) (.node (nU 0) (lA (nU 0) 15) (fA 16)))) (.node (nU 0) (.node (nU 0) (.node (nU
  0) (lA (nU 0) 15) (fA 16)) (.node (nU 0) (lA (nU 0) 15) (fA 16))) (.node (nU 0) (.node (nU 0) (lA (nU 0) 15) (fA 16)) (.node (nU 0) (lA (nU 0) 15) (fA 16)))))))) (.node (nU 1088)
  (.node (nU 0) (.node (nU 0) (.node (nU 0) (.node (nU 0) (.node (nU 0) (.node (nU 3) (lA (nU 0) 15) (fA 16)) (.node (nU 0) (lA (nU 0) 15) (fA 16))) (.node (nU 0) (.node (nU 0) (lA
  (nU 0) 15) (fA 16)) (.node (nU 0) (lA (nU 0) 15) (fA 16)))) (.node (nU 0) (.node (nU 0) (.node (nU 0) (lA (nU 0) 15) (fA 16)) (.node (nU 0) (lA (nU 0) 15) (fA 16))) (.node (nU 0)
  (.node (nU 0) (lA (nU 0) 15) (fA 16)) (.node (nU 0) (lA (nU 0) 15) (fA 16))))) (.node (nU 0) (.node (nU 0) (.node (nU 0) (.node (nU 5495893775785918464) (lA (nU 0) 15) (fA 16))
  (.node (nU 0) (lA (nU 0) 15) (fA 16))) (.node (nU 0) (.node (nU 0) (lA (nU 0) 15) (fA 16)) (.node (nU 0) (lA (nU 0) 15) (fA 16)))) (.node (nU 0) (.node (nU 0) (.node (nU 0) (lA (nU
  0) 15) (fA 16)) (.node (nU 0) (lA (nU 0) 15) (fA 16))) (.node (nU 0) (.node (nU 0) (lA (nU 0) 15) (fA 16)) (.node (nU 0) (lA (nU 0) 15) (fA 16)))))) (.node (nU 0) (.node (nU 0)
  (.node (nU 0) (.node (nU 0) (.node (nU 0) (lA (nU 0) 15) (fA 16)) (.node (nU 0) (lA (nU 0) 15) (fA 16))) (.node (nU 0) (.node (nU 0) (lA (nU 0) 15) (fA 16)) (.node (nU 0) (lA (nU
  0) 15) (fA 16)))) (.node (nU 0) (.node (nU 0) (.node (nU 0) (lA (nU 0) 15) (fA 16)) (.node (nU 0) (lA (nU 0) 15) (fA 16))) (.node (nU 0) (.node (nU 0) (lA (nU 0) 15) (fA 16))
  (.node (nU 0) (lA (nU 0) 15) (fA 16))))) (.node (nU 0) (.node (nU 0) (.node (nU 0) (.node (nU 1088) (lA (nU 0) 15) (fA 16)) (.node (nU 0) (lA (nU 0) 15) (fA 16))) (.node (nU 0)
  (.node (nU 0) (lA (nU 0) 15) (fA 16)) (.node (nU 0) (lA (nU 0) 15) (fA 16)))) (.node (nU 0) (.node (nU 0) (.node (nU 0) (lA (nU 0) 15) (fA 16)) (.node (nU 0) (lA (nU 0) 15) (fA
  16))) (.node (nU 0) (.node (nU 0) (lA (nU 0) 15) (fA 16)) (.node (nU 0) (lA (nU 0) 15) (fA 16))))))) (.node (nU 0) (.node (nU 0) (.node (nU 0) (.node (nU 0) (.node (nU 0) (.node
  (nU 0) (lA (nU 0) 15) (fA 16)) (.node (nU 0) (lA (nU 0) 15) (fA 16))) (.node (nU 0) (.node (nU 0) (lA (nU 0) 15) (fA 16)) (.node (nU 0) (lA (nU 0) 15) (fA 16)))) (.node (nU 0)
  (.node (nU 0) (.node (nU 0) (lA (nU 0) 15) (fA 16)) (.node (nU 0) (lA (nU 0) 15) (fA 16))) (.node (nU 0) (.node (nU 0) (lA (nU 0) 15) (fA 16)) (.node (nU 0) (lA (nU 0) 15) (fA
  16))))) (.node (nU 0) (.node (nU 0) (.node (nU 0) (.node (nU 0) (lA (nU 0) 15) (fA 16)) (.node (nU 0) (lA (nU 0) 15) (fA 16))) (.node (nU 0) (.node (nU 0) (lA (nU 0) 15) (fA 16))
  (.node (nU 0) (lA (nU 0) 15) (fA 16)))) (.node (nU 0) (.node (nU 0) (.node (nU 0) (lA (nU 0) 15) (fA 16)) (.node (nU 0) (lA (nU 0) 15) (fA 16))) (.node (nU 0) (.node (nU 0) (lA (nU
  0) 15) (fA 16)) (.node (nU 0) (lA (nU 0) 15) (fA 16)))))) (.node (nU 0) (.node (nU 0) (.node (nU 0) (.node (nU 0) (.node (nU 0) (lA (nU 0) 15) (fA 16)) (.node (nU 0) (lA (nU 0) 15)
  (fA 16))) (.node (nU 0) (.node (nU 0) (lA (nU 0) 15) (fA 16)) (.node (nU 0) (lA (nU 0) 15) (fA 16)))) (.node (nU 0) (.node (nU 0) (.node (nU 0) (lA (nU 0) 15) (fA 16)) (.node (nU
  0) (lA (nU 0) 15) (fA 16))) (.node (nU 0) (.node (nU 0) (lA (nU 0) 15) (fA 16)) (.node (nU 0) (lA (nU 0) 15) (fA 16))))) (.node (nU 0) (.node (nU 0) (.node (nU 0) (.node (nU 0) (lA
  (nU 0) 15) (fA 16)) (.node (nU 0) (lA (nU 0) 15) (fA 16))) (.node (nU 0) (.node (nU 0) (lA (nU 0) 15) (fA 16)) (.node (nU 0) (lA (nU 0) 15) (fA 16)))) (.node (nU 0) (.node (nU 0)
  (.node (nU 0) (lA (nU 0) 15) (fA 16)) (.node (nU 0) (lA (nU 0) 15) (fA 16))) (.node (nU 0) (.node (nU 0) (lA (nU 0) 15) (fA 16)) (.node (nU 0) (lA (nU 0) 15) (fA 16))))))))) false
  false) 13)) (fD 15))) (.node .dead (fD 16) (.node .dead (.node .dead (fD 14) (lD (.cells 25 1 1 (lA (nU 0) 23) true false) 13)) (fD 15)))) (fD 18)) (.node .dead (fD 18) (.node
  .dead (fD 17) (.node .dead (.node .dead (fD 15) (lD (.cells 176 22 22 (.node (nU 1088) (.node (nI 0) (.node (nU 0) (.node (nU 0) (lA (nU 0) 19) (fA 20)) (.node (nU 0) (lA (nU 0)
  19) (fA 20))) (.node (nU 1088) (.node (nU 0) (lA (nU 0) 19) (fA 20)) (.node (nU 0) (lA (nU 0) 19) (fA 20)))) (.node (nU 0) (.node (nU 0) (.node (nU 0) (lA (nU 0) 19) (fA 20))
  (.node (nU 0) (lA (nU 0) 19) (fA 20))) (.node (nU 0) (.node (nU 0) (lA (nU 0) 19) (fA 20)) (lA (nU 0) 20)))) false false) 14)) (fD 16))))) (.node .dead (.node .dead (.node .dead
  (.node .dead (fD 16) (.node .dead (.node .dead (fD 14) (lD (.cells 271 1 1 (lA (.sl 1723 0 0 4 (.u 1723 0)) 23) true false) 13)) (fD 15))) (fD 17)) (fD 18)) (.node .dead (.node
  .dead (.node .dead (.node .dead (fD 15) (lD (.cells 271 1 1 (lA .nilsl 23) true false) 14)) (fD 16)) (fD 17)) (.node .dead (.node .dead (fD 16) (.node .dead (.node .dead (fD 14)
  (lD (.defd (some [])) 13)) (fD 15))) (.node .dead (.node .dead (fD 15) (lD (.map [] 0) 14)) (fD 16)))))))) (.node .dead (.node .dead (.node .dead (.node (.map [] 0) (.node .dead
  (fD 18) (.node .dead (.node .dead (.node .dead (fD 15) (lD (.cells 271 1 1 (lA (.sl 846 0 0 4 (.u 846 0)) 23) true false) 14)) (fD 16)) (fD 17))) (fD 19)) (.node .dead (.node .dead
  (.node .dead (.node .dead (fD 16) (.node .dead (.node .dead (fD 14) (lD (.cells 198 7 7 (.node (nI 3072) (.node (.sl 1670 0 0 3 (.k 3)) (lA (.ptr 1675 0) 21) (lA (.ptr 1677 0) 21))
  (.node (.ptr 1674 0) (lA (.ptr 1676 0) 21) (lA (.map 1671) 21))) true false) 13)) (fD 15))) (fD 17)) (.node .dead (fD 17) (.node .dead (.node .dead (fD 15) (lD (.cells 125 3 3
  (.node (.ptr 17 0) (lA (.ptr 795 0) 22) (lA (.ptr 871 0) 22)) true false) 14)) (fD 16)))) (.node .dead (.node .dead (.node .dead (.node .dead (fD 15) (lD (.cells 25 1 384 (.node
  (nU 5929342154728227142) (.node (nU 3072) (.node (nU 18446744073709548543) (.node (nU 0) (.node (nU 0) (.node (nU 0) (.node (nU 0) (.node (nU 0) (lA (nU 0) 15) (lA (nU 0) 15))
  (.node (nU 0) (lA (nU 0) 15) (fA 16))) (.node (nU 0) (.node (nU 0) (lA (nU 0) 15) (fA 16)) (.node (nU 0) (lA (nU 0) 15) (fA 16)))) (.node (nU 0) (.node (nU 0) (.node (nU 0) (lA (nU
  0) 15) (fA 16)) (.node (nU 0) (lA (nU 0) 15) (fA 16))) (.node (nU 0) (.node (nU 0) (lA (nU 0) 15) (fA 16)) (.node (nU 0) (lA (nU 0) 15) (fA 16))))) (.node (nU 0) (.node (nU 0)
  (.node (nU 0) (.node (nU 0) (lA (nU 0) 15) (fA 16)) (.node (nU 0) (lA (nU 0) 15) (fA 16))) (.node (nU 0) (.node (nU 0) (lA (nU 0) 15) (fA 16)) (.node (nU 0) (lA (nU 0) 15) (fA
  16)))) (.node (nU 0) (.node (nU 0) (.node (nU 0) (lA (nU 0) 15) (fA 16)) (.node (nU 0) (lA (nU 0) 15) (fA 16))) (.node (nU 0) (.node (nU 0) (lA (nU 0) 15) (fA 16)) (.node (nU 0)
  (lA (nU 0) 15) (fA 16)))))) (.node (nU 0) (.node (nU 0) (.node (nU 0) (.node (nU 0) (.node (nU 0) (lA (nU 0) 15) (fA 16)) (.node (nU 0) (lA (nU 0) 15) (fA 16))) (.node (nU 0)
  (.node (nU 0) (lA (nU 0) 15) (fA 16)) (.node (nU 0) (lA (nU 0) 15) (fA 16)))) (.node (nU 0) (.node (nU 0) (.node (nU 0) (lA (nU 0) 15) (fA 16)) (.node (nU 0) (lA (nU 0) 15) (fA
  16))) (.node (nU 0) (.node (nU 0) (lA (nU 0) 15) (fA 16)) (.node (nU 0) (lA (nU 0) 15) (fA 16))))) (.node (nU 0) (.node (nU 0) (.node (nU 0) (.node (nU 0) (lA (nU 0) 15) (fA 16))
  (.node (nU 0) (lA (nU 0) 15) (fA 16))) (.node (nU 0) (.node (nU 0) (lA (nU 0) 15) (fA 16)) (.node (nU 0) (lA (nU 0) 15) (fA 16)))) (.node (nU 0) (.node (nU 0) (.node (nU 0) (lA (nU
  0) 15) (fA 16)) (.node (nU 0) (lA (nU 0) 15) (fA 16))) (.node (nU 0) (.node (nU 0) (lA (nU 0) 15) (fA 16)) (.node (nU 0) (lA (nU 0) 15) (fA 16))))))) (.node (nU 0) (.node (nU 0)
  (.node (nU 0) (.node (nU 0) (.node (nU 0) (.node (nU 1) (lA (nU 0) 15) (fA 16)) (.node (nU 0) (lA (nU 0) 15) (fA 16))) (.node (nU 0) (.node (nU 0) (lA (nU 0) 15) (fA 16)) (.node
  (nU 0) (lA (nU 0) 15) (fA 16)))) (.node (nU 0) (.node (nU 0) (.node (nU 0) (lA (nU 0) 15) (fA 16)) (.node (nU 0) (lA (nU 0) 15) (fA 16))) (.node (nU 0) (.node (nU 0) (lA (nU 0) 15)
  (fA 16)) (.node (nU 0) (lA (nU 0) 15) (fA 16))))) (.node (nU 0) (.node (nU 0) (.node (nU 0) (.node (nU 0) (lA (nU 0) 15) (fA 16)) (.node (nU 0) (lA (nU 0) 15) (fA 16))) (.node (nU
  0) (.node (nU 0) (lA (nU 0) 15) (fA 16)) (.node (nU 0) (lA (nU 0) 15) (fA 16)))) (.node (nU 0) (.node (nU 0) (.node (nU 0) (lA (nU 0) 15) (fA 16)) (.node (nU 0) (lA (nU 0) 15) (fA
  16))) (.node (nU 0) (.node (nU 0) (lA (nU 0) 15) (fA 16)) (.node (nU 0) (lA (nU 0) 15) (fA 16)))))) (.node (nU 0) (.node (nU 0) (.node (nU 0) (.node (nU 0) (.node (nU 0) (lA (nU 0)
  15) (fA 16)) (.node (nU 0) (lA (nU 0) 15) (fA 16))) (.node (nU 0) (.node (nU 0) (lA (nU 0) 15) (fA 16)) (.node (nU 0) (lA (nU 0) 15) (fA 16)))) (.node (nU 0) (.node (nU 0) (.node
  (nU 0) (lA (nU 0) 15) (fA 16)) (.node (nU 0) (lA (nU 0) 15) (fA 16))) (.node (nU 0) (.node (nU 0) (lA (nU 0) 15) (fA 16)) (.node (nU 0) (lA (nU 0) 15) (fA 16))))) (.node (nU 0)
  (.node (nU 0) (.node (nU 0) (.node (nU 0) (lA (nU 0) 15) (fA 16)) (.node (nU 0) (lA (nU 0) 15) (fA 16))) (.node (nU 0) (.node (nU 0) (lA (nU 0) 15) (fA 16)) (.node (nU 0) (lA (nU
  0) 15) (fA 16)))) (.node (nU 0) (.node (nU 0) (.node (nU 0) (lA (nU 0) 15) (fA 16)) (.node (nU 0) (lA (nU 0) 15) (fA 16))) (.node (nU 0) (.node (nU 0) (lA (nU 0) 15) (fA 16))
  (.node (nU 0) (lA (nU 0) 15) (fA 16)))))))) (.node (nU 1088) (.node (nU 0) (.node (nU 0) (.node (nU 0) (.node (nU 0) (.node (nU 0) (.node (nU 3) (lA (nU 0) 15) (fA 16)) (.node (nU
  0) (lA (nU 0) 15) (fA 16))) (.node (nU 0) (.node (nU 0) (lA (nU 0) 15) (fA 16)) (.node (nU 0) (lA (nU 0) 15) (fA 16)))) (.node (nU 0) (.node (nU 0) (.node (nU 0) (lA (nU 0) 15) (fA
  16)) (.node (nU 0) (lA (nU 0) 15) (fA 16))) (.node (nU 0) (.node (nU 0) (lA (nU 0) 15) (fA 16)) (.node (nU 0) (lA (nU 0) 15) (fA 16))))) (.node (nU 0) (.node (nU 0) (.node (nU 0)
  (.node (nU 5495893775785918464) (lA (nU 0) 15) (fA 16)) (.node (nU 0) (lA (nU 0) 15) (fA 16))) (.node (nU 0) (.node (nU 0) (lA (nU 0) 15) (fA 16)) (.node (nU 0) (lA (nU 0) 15) (fA
  16)))) (.node (nU 0) (.node (nU 0) (.node (nU 0) (lA (nU 0) 15) (fA 16)) (.node (nU 0) (lA (nU 0) 15) (fA 16))) (.node (nU 0) (.node (nU 0) (lA (nU 0) 15) (fA 16)) (.node (nU 0)
  (lA (nU 0) 15) (fA 16)))))) (.node (nU 0) (.node (nU 0) (.node (nU 0) (.node (nU 0) (.node (nU 0) (lA (nU 0) 15) (fA 16)) (.node (nU 0) (lA (nU 0) 15) (fA 16))) (.node (nU 0)
  (.node (nU 0) (lA (nU 0) 15) (fA 16)) (.node (nU 0) (lA (nU 0) 15) (fA 16)))) (.node (nU 0) (.node (nU 0) (.node (nU 0) (lA (nU 0) 15) (fA 16)) (.node (nU 0) (lA (nU 0) 15) (fA
  16))) (.node (nU 0) (.node (nU 0) (lA (nU 0) 15) (fA 16)) (.node (nU 0) (lA (nU 0) 15) (fA 16))))) (.node (nU 0) (.node (nU 0) (.node (nU 0) (.node (nU 1088) (lA (nU 0) 15) (fA
  16)) (.node (nU 0) (lA (nU 0) 15) (fA 16))) (.node (nU 0) (.node (nU 0) (lA (nU 0) 15) (fA 16)) (.node (nU 0) (lA (nU 0) 15) (fA 16)))) (.node (nU 0) (.node (nU 0) (.node (nU 0)
  (lA (nU 0) 15) (fA 16)) (.node (nU 0) (lA (nU 0) 15) (fA 16))) (.node (nU 0) (.node (nU 0) (lA (nU 0) 15) (fA 16)) (.node (nU 0) (lA (nU 0) 15) (fA 16))))))) (.node (nU 0) (.node
  (nU 0) (.node (nU 0) (.node (nU 0) (.node (nU 0) (.node (nU 0) (lA (nU 0) 15) (fA 16)) (.node (nU 0) (lA (nU 0) 15) (fA 16))) (.node (nU 0) (.node (nU 0) (lA (nU 0) 15) (fA 16))
  (.node (nU 0) (lA (nU 0) 15) (fA 16)))) (.node (nU 0) (.node (nU 0) (.node (nU 0) (lA (nU 0) 15) (fA 16)) (.node (nU 0) (lA (nU 0) 15) (fA 16))) (.node (nU 0) (.node (nU 0) (lA (nU
  0) 15) (fA 16)) (.node (nU 0) (lA (nU 0) 15) (fA 16))))) (.node (nU 0) (.node (nU 0) (.node (nU 0) (.node (nU 0) (lA (nU 0) 15) (fA 16)) (.node (nU 0) (lA (nU 0) 15) (fA 16)))
  (.node (nU 0) (.node (nU 0) (lA (nU 0) 15) (fA 16)) (.node (nU 0) (lA (nU 0) 15) (fA 16)))) (.node (nU 0) (.node (nU 0) (.node (nU 0) (lA (nU 0) 15) (fA 16)) (.node (nU 0) (lA (nU
  0) 15) (fA 16))) (.node (nU 0) (.node (nU 0) (lA (nU 0) 15) (fA 16)) (.node (nU 0) (lA (nU 0) 15) (fA 16)))))) (.node (nU 0) (.node (nU 0) (.node (nU 0) (.node (nU 0) (.node (nU 0)
  (lA (nU 0) 15) (fA 16)) (.node (nU 0) (lA (nU 0) 15) (fA 16))) (.node (nU 0) (.node (nU 0) (lA (nU 0) 15) (fA 16)) (.node (nU 0) (lA (nU 0) 15) (fA 16)))) (.node (nU 0) (.node (nU
  0) (.node (nU 0) (lA (nU 0) 15) (fA 16)) (.node (nU 0) (lA (nU 0) 15) (fA 16))) (.node (nU 0) (.node (nU 0) (lA (nU 0) 15) (fA 16)) (.node (nU 0) (lA (nU 0) 15) (fA 16))))) (.node
  (nU 0) (.node (nU 0) (.node (nU 0) (.node (nU 0) (lA (nU 0) 15) (fA 16)) (.node (nU 0) (lA (nU 0) 15) (fA 16))) (.node (nU 0) (.node (nU 0) (lA (nU 0) 15) (fA 16)) (.node (nU 0)
  (lA (nU 0) 15) (fA 16)))) (.node (nU 0) (.node (nU 0) (.node (nU 0) (lA (nU 0) 15) (fA 16)) (.node (nU 0) (lA (nU 0) 15) (fA 16))) (.node (nU 0) (.node (nU 0) (lA (nU 0) 15) (fA
  16)) (.node (nU 0) (lA (nU 0) 15) (fA 16))))))))) false false) 14)) (fD 16)) (fD 17)) (fD 18)))) (.node .dead (.node .dead (.node .dead (.node .dead (fD 17) (.node .dead (fD 16)
  (.node .dead (.node .dead (fD 14) (lD (.cells 3 1 1 (lA (nI 2) 23) true false) 13)) (fD 15)))) (fD 18)) (fD 19)) (.node .dead (.node .dead (.node .dead (.node .dead (fD 16) (.node
  .dead (.node .dead (fD 14) (lD (.cells 271 1 1 (lA .nilsl 23) true false) 13)) (fD 15))) (fD 17)) (fD 18)) (.node .dead (fD 18) (.node .dead (.node .dead (fD 16) (.node .dead
  (.node .dead (fD 14) (lD (.cells 25 1 1 (lA (nU 1) 23) true false) 13)) (fD 15))) (.node .dead (.node .dead (fD 15) (lD (.cells 170 1 1 (lA (.sl 885 0 0 1 (.u 885 0)) 23) false
  false) 14)) (fD 16))))))) (.node .dead (.node .dead (.node .dead (fD 19) (.node .dead (fD 18) (.node .dead (fD 17) (.node .dead (.node .dead (fD 15) (lD (.cells 50 8 8 (.node (.sl
  881 0 0 3072 (.k 3072)) (.node (nI 2) (.node (nI 0) (lA (.sl 892 0 0 1 (.u 892 0)) 20) (fA 21)) (lA (nI 1) 21)) (.node (nI 1) (lA (nI 0) 21) (lA (nI 1) 21))) true false) 14)) (fD
  16))))) (.node .dead (.node .dead (.node .dead (.node .dead (fD 16) (.node .dead (.node .dead (fD 14) (lD (.cells 271 1 1 (lA .nilsl 23) true false) 13)) (fD 15))) (fD 17)) (fD
  18)) (.node .dead (.node .dead (.node .dead (.node .dead (fD 15) (lD (.map [⟨(nU 1088), (nI 2), 0⟩] 1) 14)) (fD 16)) (fD 17)) (fD 18)))) (.node .dead (.node .dead (.node .dead
  (.node .dead (.node .dead (fD 16) (.node .dead (.node .dead (fD 14) (lD (.cells 205 2 6 (.node (nI 0) (.node (nU 0) (lA (nU 1) 21) (lA (nU 0) 21)) (.node (nI 3) (lA (nI 0) 21) (fA
  22))) true false) 13)) (fD 15))) (fD 17)) (.node .dead (fD 17) (.node .dead (.node .dead (fD 15) (lD (.map [] 0) 14)) (fD 16)))) (.node .dead (.node .dead (.node .dead (.node .dead
  (fD 15) (lD (.cells 25 1 384 (.node (nU 5929342154728227142) (.node (nU 3072) (.node (nU 18446744073709548543) (.node (nU 0) (.node (nU 0) (.node (nU 0) (.node (nU 0) (.node (nU 0)
  (lA (nU 0) 15) (lA (nU 0) 15)) (.node (nU 0) (lA (nU 0) 15) (fA 16))) (.node (nU 0) (.node (nU 0) (lA (nU 0) 15) (fA 16)) (.node (nU 0) (lA (nU 0) 15) (fA 16)))) (.node (nU 0)
  (.node (nU 0) (.node (nU 0) (lA (nU 0) 15) (fA 16)) (.node (nU 0) (lA (nU 0) 15) (fA 16))) (.node (nU 0) (.node (nU 0) (lA (nU 0) 15) (fA 16)) (.node (nU 0) (lA (nU 0) 15) (fA
  16))))) (.node (nU 0) (.node (nU 0) (.node (nU 0) (.node (nU 0) (lA (nU 0) 15) (fA 16)) (.node (nU 0) (lA (nU 0) 15) (fA 16))) (.node (nU 0) (.node (nU 0) (lA (nU 0) 15) (fA 16))
  (.node (nU 0) (lA (nU 0) 15) (fA 16)))) (.node (nU 0) (.node (nU 0) (.node (nU 0) (lA (nU 0) 15) (fA 16)) (.node (nU 0) (lA (nU 0) 15) (fA 16))) (.node (nU 0) (.node (nU 0) (lA (nU
  0) 15) (fA 16)) (.node (nU 0) (lA (nU 0) 15) (fA 16)))))) (.node (nU 0) (.node (nU 0) (.node (nU 0) (.node (nU 0) (.node (nU 0) (lA (nU 0) 15) (fA 16)) (.node (nU 0) (lA (nU 0) 15)
  (fA 16))) (.node (nU 0) (.node (nU 0) (lA (nU 0) 15) (fA 16)) (.node (nU 0) (lA (nU 0) 15) (fA 16)))) (.node (nU 0) (.node (nU 0) (.node (nU 0) (lA (nU 0) 15) (fA 16)) (.node (nU
  0) (lA (nU 0) 15) (fA 16))) (.node (nU 0) (.node (nU 0) (lA (nU 0) 15) (fA 16)) (.node (nU 0) (lA (nU 0) 15) (fA 16))))) (.node (nU 0) (.node (nU 0) (.node (nU 0) (.node (nU 0) (lA
  (nU 0) 15) (fA 16)) (.node (nU 0) (lA (nU 0) 15) (fA 16))) (.node (nU 0) (.node (nU 0) (lA (nU 0) 15) (fA 16)) (.node (nU 0) (lA (nU 0) 15) (fA 16)))) (.node (nU 0) (.node (nU 0)
  (.node (nU 0) (lA (nU 0) 15) (fA 16)) (.node (nU 0) (lA (nU 0) 15) (fA 16))) (.node (nU 0) (.node (nU 0) (lA (nU 0) 15) (fA 16)) (.node (nU 0) (lA (nU 0) 15) (fA 16))))))) (.node
  (nU 0) (.node (nU 0) (.node (nU 0) (.node (nU 0) (.node (nU 0) (.node (nU 1) (lA (nU 0) 15) (fA 16)) (.node (nU 0) (lA (nU 0) 15) (fA 16))) (.node (nU 0) (.node (nU 0) (lA (nU 0)
  15) (fA 16)) (.node (nU 0) (lA (nU 0) 15) (fA 16)))) (.node (nU 0) (.node (nU 0) (.node (nU 0) (lA (nU 0) 15) (fA 16)) (.node (nU 0) (lA (nU 0) 15) (fA 16))) (.node (nU 0) (.node
  (nU 0) (lA (nU 0) 15) (fA 16)) (.node (nU 0) (lA (nU 0) 15) (fA 16))))) (.node (nU 0) (.node (nU 0) (.node (nU 0) (.node (nU 0) (lA (nU 0) 15) (fA 16)) (.node (nU 0) (lA (nU 0) 15)
  (fA 16))) (.node (nU 0) (.node (nU 0) (lA (nU 0) 15) (fA 16)) (.node (nU 0) (lA (nU 0) 15) (fA 16)))) (.node (nU 0) (.node (nU 0) (.node (nU 0) (lA (nU 0) 15) (fA 16)) (.node (nU
  0) (lA (nU 0) 15) (fA 16))) (.node (nU 0) (.node (nU 0) (lA (nU 0) 15) (fA 16)) (.node (nU 0) (lA (nU 0) 15) (fA 16)))))) (.node (nU 0) (.node (nU 0) (.node (nU 0) (.node (nU 0)
  (.node (nU 0) (lA (nU 0) 15) (fA 16)) (.node (nU 0) (lA (nU 0) 15) (fA 16))) (.node (nU 0) (.node (nU 0) (lA (nU 0) 15) (fA 16)) (.node (nU 0) (lA (nU 0) 15) (fA 16)))) (.node (nU
  0) (.node (nU 0) (.node (nU 0) (lA (nU 0) 15) (fA 16)) (.node (nU 0) (lA (nU 0) 15) (fA 16))) (.node (nU 0) (.node (nU 0) (lA (nU 0) 15) (fA 16)) (.node (nU 0) (lA (nU 0) 15) (fA
  16))))) (.node (nU 0) (.node (nU 0) (.node (nU 0) (.node (nU 0) (lA (nU 0) 15) (fA 16)) (.node (nU 0) (lA (nU 0) 15) (fA 16))) (.node (nU 0) (.node (nU 0) (lA (nU 0) 15) (fA 16))
  (.node (nU 0) (lA (nU 0) 15) (fA 16)))) (.node (nU 0) (.node (nU 0) (.node (nU 0) (lA (nU 0) 15) (fA 16)) (.node (nU 0) (lA (nU 0) 15) (fA 16))) (.node (nU 0) (.node (nU 0) (lA (nU
  0) 15) (fA 16)) (.node (nU 0) (lA (nU 0) 15) (fA 16)))))))) (.node (nU 1088) (.node (nU 0) (.node (nU 0) (.node (nU 0) (.node (nU 0) (.node (nU 0) (.node (nU 3) (lA (nU 0) 15) (fA
  16)) (.node (nU 0) (lA (nU 0) 15) (fA 16))) (.node (nU 0) (.node (nU 0) (lA (nU 0) 15) (fA 16)) (.node (nU 0) (lA (nU 0) 15) (fA 16)))) (.node (nU 0) (.node (nU 0) (.node (nU 0)
  (lA (nU 0) 15) (fA 16)) (.node (nU 0) (lA (nU 0) 15) (fA 16))) (.node (nU 0) (.node (nU 0) (lA (nU 0) 15) (fA 16)) (.node (nU 0) (lA (nU 0) 15) (fA 16))))) (.node (nU 0) (.node (nU
  0) (.node (nU 0) (.node (nU 5495893775785918464) (lA (nU 0) 15) (fA 16)) (.node (nU 0) (lA (nU 0) 15) (fA 16))) (.node (nU 0) (.node (nU 0) (lA (nU 0) 15) (fA 16)) (.node (nU 0)
  (lA (nU 0) 15) (fA 16)))) (.node (nU 0) (.node (nU 0) (.node (nU 0) (lA (nU 0) 15) (fA 16)) (.node (nU 0) (lA (nU 0) 15) (fA 16))) (.node (nU 0) (.node (nU 0) (lA (nU 0) 15) (fA
  16)) (.node (nU 0) (lA (nU 0) 15) (fA 16)))))) (.node (nU 0) (.node (nU 0) (.node (nU 0) (.node (nU 0) (.node (nU 0) (lA (nU 0) 15) (fA 16)) (.node (nU 0) (lA (nU 0) 15) (fA 16)))
  (.node (nU 0) (.node (nU 0) (lA (nU 0) 15) (fA 16)) (.node (nU 0) (lA (nU 0) 15) (fA 16)))) (.node (nU 0) (.node (nU 0) (.node (nU 0) (lA (nU 0) 15) (fA 16)) (.node (nU 0) (lA (nU
  0) 15) (fA 16))) (.node (nU 0) (.node (nU 0) (lA (nU 0) 15) (fA 16)) (.node (nU 0) (lA (nU 0) 15) (fA 16))))) (.node (nU 0) (.node (nU 0) (.node (nU 0) (.node (nU 1088) (lA (nU 0)
  15) (fA 16)) (.node (nU 0) (lA (nU 0) 15) (fA 16))) (.node (nU 0) (.node (nU 0) (lA (nU 0) 15) (fA 16)) (.node (nU 0) (lA (nU 0) 15) (fA 16)))) (.node (nU 0) (.node (nU 0) (.node
  (nU 0) (lA (nU 0) 15) (fA 16)) (.node (nU 0) (lA (nU 0) 15) (fA 16))) (.node (nU 0) (.node (nU 0) (lA (nU 0) 15) (fA 16)) (.node (nU 0) (lA (nU 0) 15) (fA 16))))))) (.node (nU 0)
  (.node (nU 0) (.node (nU 0) (.node (nU 0) (.node (nU 0) (.node (nU 0) (lA (nU 0) 15) (fA 16)) (.node (nU 0) (lA (nU 0) 15) (fA 16))) (.node (nU 0) (.node (nU 0) (lA (nU 0) 15) (fA
  16)) (.node (nU 0) (lA (nU 0) 15) (fA 16)))) (.node (nU 0) (.node (nU 0) (.node (nU 0) (lA (nU 0) 15) (fA 16)) (.node (nU 0) (lA (nU 0) 15) (fA 16))) (.node (nU 0) (.node (nU 0)
  (lA (nU 0) 15) (fA 16)) (.node (nU 0) (lA (nU 0) 15) (fA 16))))) (.node (nU 0) (.node (nU 0) (.node (nU 0) (.node (nU 0) (lA (nU 0) 15) (fA 16)) (.node (nU 0) (lA (nU 0) 15) (fA
  16))) (.node (nU 0) (.node (nU 0) (lA (nU 0) 15) (fA 16)) (.node (nU 0) (lA (nU 0) 15) (fA 16)))) (.node (nU 0) (.node (nU 0) (.node (nU 0) (lA (nU 0) 15) (fA 16)) (.node (nU 0)
  (lA (nU 0) 15) (fA 16))) (.node (nU 0) (.node (nU 0) (lA (nU 0) 15) (fA 16)) (.node (nU 0) (lA (nU 0) 15) (fA 16)))))) (.node (nU 0) (.node (nU 0) (.node (nU 0) (.node (nU 0)
  (.node (nU 0) (lA (nU 0) 15) (fA 16)) (.node (nU 0) (lA (nU 0) 15) (fA 16))) (.node (nU 0) (.node (nU 0) (lA (nU 0) 15) (fA 16)) (.node (nU 0) (lA (nU 0) 15) (fA 16)))) (.node (nU
  0) (.node (nU 0) (.node (nU 0) (lA (nU 0) 15) (fA 16)) (.node (nU 0) (lA (nU 0) 15) (fA 16))) (.node (nU 0) (.node (nU 0) (lA (nU 0) 15) (fA 16)) (.node (nU 0) (lA (nU 0) 15) (fA
  16))))) (.node (nU 0) (.node (nU 0) (.node (nU 0) (.node (nU 0) (lA (nU 0) 15) (fA 16)) (.node (nU 0) (lA (nU 0) 15) (fA 16))) (.node (nU 0) (.node (nU 0) (lA (nU 0) 15) (fA 16))
  (.node (nU 0) (lA (nU 0) 15) (fA 16)))) (.node (nU 0) (.node (nU 0) (.node (nU 0) (lA (nU 0) 15) (fA 16)) (.node (nU 0) (lA (nU 0) 15) (fA 16))) (.node (nU 0) (.node (nU 0) (lA (nU
  0) 15) (fA 16)) (.node (nU 0) (lA (nU 0) 15) (fA 16))))))))) false false) 14)) (fD 16)) (fD 17)) (fD 18))) (.node .dead (.node .dead (.node .dead (fD 17) (.node .dead (.node .dead
  (fD 15) (lD (.cells 26 1 5 (.node (nU 1280) (.node (nU 1664) (lA (nU 1856) 21) (fA 22)) (.node (nU 1472) (lA (nU 1088) 21) (fA 22))) false false) 14)) (fD 16))) (fD 18)) (.node
  .dead (.node .dead (.node .dead (.node .dead (fD 15) (lD (.cells 271 1 1 (lA .nilsl 23) true false) 14)) (fD 16)) (fD 17)) (.node .dead (fD 17) (.node .dead (.node .dead (fD 15)
  (lD (.cells 128 7 7 (.node (.sl 1669 0 0 384 (.u 1669 0)) (.node (.sl 1667 0 0 384 (.u 1667 0)) (lA (nU 0) 21) (lA (nU 0) 21)) (.node (.map 893) (lA (nU 0) 21) (lA (nU 0) 21)))
  true false) 14)) (fD 16))))))))), 1734⟩,
  [.dr ⟨(opsAt Tryz.f45 [1, 1, 1, 1, 1, 0, 1, 0, 0, 1, 0, 0, 0]), [0, 0, 2, 7, 0, 0, 47, 127, 0, 511, 1023], [9, 10], 204, 127, 307⟩, .code
  (codeAt Tryz.f45 [1, 1, 1, 1, 1, 0, 1, 0, 0, 1, 0, 0, 1]), .blk 3, .code (codeAt Tryz.f45 [1, 1, 1, 1, 1, 0, 1, 0, 0, 1, 1]), .lp (codeAt Tryz.f45 [1, 1, 1, 1, 1, 0, 1, 0, 0]),
  .blk 2, .code (codeAt Tryz.f45 [1, 1, 1, 1, 1, 1])]⟩
set_option maxRecDepth 1000000 in
theorem part4 : cutR [0, 1, 16, 17, 790, 792, 793, 794, 795, 797, 798, 799, 800, 846, 870, 871, 872, 873, 879, 881, 882, 885, 892, 893, 894, 1667, 1669, 1670, 1671, 1672, 1673, 1674, 1675, 1676, 1677, 1723, 1724, 1725, 1732, 1733] (iterN (stepF ctx) 11700 s3) = .inl s4 := by kernel_rfl
end Go.Proofs.YtelipbpnplcofaaGreat.putNil
