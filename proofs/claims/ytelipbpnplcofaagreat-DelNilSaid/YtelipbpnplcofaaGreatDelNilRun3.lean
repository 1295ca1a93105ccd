/-
  PROVED HERE: parts of the run of the evaluator from the call of DelNil, by the kernel.
  Conditions: none.
-/
import Derived.KernelRfl
import Derived.Test.YtelipbpnplcofaaGreatDelNilRun2
namespace Go.Proofs.YtelipbpnplcofaaGreat.delNil
open Go.Lev
/-- where the run stands at the end of part 3 -/
noncomputable def s3 : St :=
  ⟨⟨147, 31, [], .normal, none,
  [⟨44, 53, [⟨(.coll 905), []⟩], .normal, none, .run, (.node (.sl 885 0 0 3072 (.k 3072)) (.node undefV (.node (nI 0) (.node undefV (lU (.sl 885 0 0
  3072 (.k 3072)) 19) (fU 20)) (lU (.bool false) 20)) (.node undefV (lU (nI 3072) 20) (lU (.agg [.nilsl, .nilsl, (.map 900), (nU 0), (nU 0), (nU 0), (nU 0)]) 20))) (.node .nil (.node
  (.ptr 902 0) (.node (.sl 885 0 0 3072 (.k 3072)) (lU (.fn (.func 147) [] [(.ptr 903 0), (.ptr 904 0)]) 19) (fU 20)) (lU (.map 900) 20)) (.node undefV (lU (.bool true) 20) (lU (.ptr
  901 0) 20)))), [.rf 906, .blk 0, .code (codeAt Tryz.f44 [1, 1, 1, 1])]⟩,
    ⟨13, 37, [], .normal, none, .run, (.node (.sl 885 0 0 3072 (.k 3072)) (lU (nI 1) 22) (.node undefV
  (.node .nil (fU 21) (lU (.sl 885 0 0 3072 (.k 3072)) 20)) (fU 22))), [.reg (opsAt Tryz.f13 [1, 0]) ((opsAt Tryz.f13 [1, 0]).toList.drop 1), .code (codeAt Tryz.f13 [1, 1])]⟩,
   
  ⟨18, 16, [], .normal, none, .run, (.node (.agg [(nI 2), (.sl 880 0 0 1 (.k 1)), (nI 4), (nI 0)]) (.node (nI 1) (.node undefV (lU (.ptr 886 0) 20) (lU (.ptr 886 0) 20)) (.node (.ptr
  886 0) (lU (.bool false) 20) (lU (.sl 885 0 0 3072 (.k 3072)) 20))) (.node (.ptr 881 0) (.node .nil (lU (.ptr 886 0) 20) (lU (.ptr 886 0) 20)) (.node (.agg [(nI 2), (.sl 880 0 0 1
  (.k 1)), (nI 4), (nI 0)]) (lU (.ptr 886 0) 20) (lU (nI 1) 20)))), [.reg (opsAt Tryz.f18 [1, 1, 1, 0]) ((opsAt Tryz.f18 [1, 1, 1, 0]).toList.drop 5), .code (codeAt Tryz.f18 [1, 1,
  0, 1, 0, 1])]⟩,
    ⟨20, 58, [], .normal, none, .run, (.node (.bool false) (.node undefV (fU 22) (.node undefV (lU (.agg [(nI 2), (.sl 880 0 0 1 (.k 1)), (nI 4), (nI 0)]) 20) (fU
  21))) (.node undefV (.node undefV (lU (.sl 880 0 0 1 (.k 1)) 20) (fU 21)) (fU 22))), [.reg (opsAt Tryz.f20 [1, 0]) ((opsAt Tryz.f20 [1, 0]).toList.drop 2), .code (codeAt Tryz.f20
  [1, 1])]⟩,
    ⟨5, 94, [], .normal, none, .run, (.node (.bool false) (.node .nil (.node (.bool true) (.node (.ptr 1 0) (.node (.tup [(.bool true), (nI 1)]) (.node (.ptr 873 0) (lU
  (.bool true) 17) (fU 18)) (.node (.bool true) (lU (.bool true) 17) (fU 18))) (.node (nI 1) (.node (.tup [(.bool true), (nI 12)]) (lU (nI 1) 17) (fU 18)) (.node (.bool true) (lU
  (.agg [(nI 12), (.str (bs [])), .nilsl]) 17) (fU 18)))) (.node (.ptr 874 0) (.node (nI 1) (.node (.ptr 874 0) (lU (.bool true) 17) (fU 18)) (.node (.bool true) (lU (.bool true) 17)
  (fU 18))) (.node (.tup [(.bool true), (nI 1)]) (.node (nI 12) (lU (nI 7) 17) (fU 18)) (.node (.bool true) (lU (.bool true) 17) (fU 18))))) (.node (.bool true) (.node (nI 1) (.node
  (.tup [(.bool true), (nI 1)]) (.node (.bool false) (lU (.agg [(nI 1), (.str (bs [])), .nilsl]) 17) (fU 18)) (.node (.bool true) (lU (.bool true) 17) (fU 18))) (.node (.tup [(.bool
  true), (nI 1)]) (.node (.tup [(.bool true), (nI 12)]) (lU (.bool true) 17) (fU 18)) (.node (.bool true) (lU (.bool true) 17) (fU 18)))) (.node (.bool true) (.node (.tup [(.bool
  true), (nI 1)]) (.node (.agg [(nI 7), (.str (bs [])), .nilsl]) (lU (.bool true) 17) (fU 18)) (.node (nI 1) (lU (.bool true) 17) (fU 18))) (.node (nI 1) (.node (.bool true) (lU
  (.bool true) 17) (fU 18)) (lU (.bool true) 18))))) (.node (.ptr 0 0) (.node (nI 1) (.node (.bool true) (.node .nil (.node (.ptr 873 0) (lU .nil 17) (fU 18)) (.node (.bool true) (lU
  (.bool true) 17) (fU 18))) (.node (.ptr 1 0) (.node (.ptr 874 0) (lU (.bool true) 17) (fU 18)) (.node (.bool true) (lU (nI 12) 17) (fU 18)))) (.node (nI 7) (.node (.tup [(.bool
  true), (nI 1)]) (.node (.ptr 874 0) (lU (.bool true) 17) (fU 18)) (.node (.bool true) (lU (.bool true) 17) (fU 18))) (.node (.bool true) (.node (.bool true) (lU (.bool true) 17)
  (fU 18)) (lU (nI 1) 18)))) (.node (nI 1) (.node (.ptr 873 0) (.node (.bool true) (.node (.ptr 873 0) (lU (nI 1) 17) (fU 18)) (.node (.bool true) (lU (nI 12) 17) (fU 18))) (.node
  (.ptr 1 0) (.node (.bool true) (lU (.bool true) 17) (fU 18)) (.node (.bool true) (lU (.bool true) 17) (fU 18)))) (.node (nI 12) (.node (.bool true) (.node (nI 7) (lU (.agg [(nI 1),
  (.str (bs [])), .nilsl]) 17) (fU 18)) (.node (.bool true) (lU (.ptr 874 0) 17) (fU 18))) (.node (.agg [(nI 2), .nilsl, (nI 4), (nI 0)]) (.node (nI 1) (lU (.bool true) 17) (fU 18))
  (lU (.bool true) 18)))))), [.reg (opsAt Tryz.f5 [1, 1, 1, 1, 1, 1, 1, 1, 1, 1, 1, 1, 0]) ((opsAt Tryz.f5 [1, 1, 1, 1, 1, 1, 1, 1, 1, 1, 1, 1, 0]).toList.drop 48), .code (codeAt
  Tryz.f5 [1, 1, 1, 1, 1, 1, 1, 1, 0, 1, 0, 1])]⟩]⟩,
  .run,
  (.node (.yld 906) (.node (.ptr 903 0) (.node undefV (.node (.sl 885 0 0 3072 (.k 3072)) (lU (nI 2168) 19) (lU (nI 8)
  19)) (.node (nI 8) (lU (.yld 906) 19) (lU (nI 2168) 19))) (.node (nI 8) (.node (.bool true) (lU (nI 904) 19) (lU (nI 2160) 19)) (.node (nI 8) (lU (nI 2160) 19) (lU (.bool true)
  19)))) (.node (.ptr 904 0) (.node (nI 2168) (.node (nI 3072) (lU (.sl 885 2168 0 904 (.k 904)) 19) (lU (nI 2168) 19)) (.node (nI 2168) (lU (.sl 885 0 0 3072 (.k 3072)) 19) (lU (.sl
  885 2160 0 8 (.k 8)) 19))) (.node (nI 2168) (.node (nI 2160) (lU (nI 8) 19) (lU (nI 8) 19)) (.node (.sl 885 0 0 3072 (.k 3072)) (lU (nI 2160) 19) (lU (.bool false) 19))))),
 
  ⟨(.node (.cells 66 13 13 (.node .nil (.node (nI 0) (.node .nil (lA .nilfn 20) (lA (.str (bs [])) 20)) (.node (nU 0) (lA (nI 0) 20) (fA 21))) (.node (nU 0) (.node .nil (lA (.bool
  false) 20) (lA .nilsl 20)) (.node .nilif (lA (nI 0) 20) (fA 21)))) true false) (.node (.cells 66 13 13 (.node .nil (.node (nI 0) (.node (.ptr 2 0) (lA (.fn (.func 51) [(.ptr 1 0)]
  []) 20) (lA (.str (bs [])) 20)) (.node (nU 0) (lA (nI 1) 20) (fA 21))) (.node (nU 1) (.node .nil (lA (.bool true) 20) (lA .nilsl 20)) (.node (.ifc 29 (.ptr 2 0)) (lA (nI 1) 20) (fA
  21)))) true false) (.node .dead (.node .dead (.node .dead (.node .dead (fD 18) (.node .dead (.node .dead (.node .dead (fD 15) (lD (.cells 271 1 1 (lA .nilsl 23) true false) 14))
  (fD 16)) (fD 17))) (.node .dead (.node .dead (fD 17) (.node .dead (.node .dead (fD 15) (lD (.cells 26 1 5 (.node (nU 1280) (.node (nU 1664) (lA (nU 1856) 21) (fA 22)) (.node (nU
  1472) (lA (nU 1088) 21) (fA 22))) false false) 14)) (fD 16))) (fD 18))) (.node .dead (.node .dead (.node .dead (.node .dead (fD 16) (.node .dead (fD 15) (lD (.cells 47 1 1 (lA (.sl
  885 0 0 3072 (.k 3072)) 23) true false) 14))) (fD 17)) (.node .dead (fD 17) (.node .dead (.node .dead (fD 15) (lD (.map [] 0) 14)) (fD 16)))) (.node .dead (.node .dead (.node .dead
  (.node .dead (fD 15) (lD (.cells 25 1 384 (.node (nU 5929342154728227142) (.node (nU 3072) (.node (nU 18446744073709548543) (.node (nU 0) (.node (nU 0) (.node (nU 0) (.node (nU 0)
  (.node (nU 0) (lA (nU 0) 15) (lA (nU 0) 15)) (.node (nU 0) (lA (nU 0) 15) (fA 16))) (.node (nU 0) (.node (nU 0) (lA (nU 0) 15) (fA 16)) (.node (nU 0) (lA (nU 0) 15) (fA 16))))
  (.node (nU 0) (.node (nU 0) (.node (nU 0) (lA (nU 0) 15) (fA 16)) (.node (nU 0) (lA (nU 0) 15) (fA 16))) (.node (nU 0) (.node (nU 0) (lA (nU 0) 15) (fA 16)) (.node (nU 0) (lA (nU
  0) 15) (fA 16))))) (.node (nU 0) (.node (nU 0) (.node (nU 0) (.node (nU 0) (lA (nU 0) 15) (fA 16)) (.node (nU 0) (lA (nU 0) 15) (fA 16))) (.node (nU 0) (.node (nU 0) (lA (nU 0) 15)
  (fA 16)) (.node (nU 0) (lA (nU 0) 15) (fA 16)))) (.node (nU 0) (.node (nU 0) (.node (nU 0) (lA (nU 0) 15) (fA 16)) (.node (nU 0) (lA (nU 0) 15) (fA 16))) (.node (nU 0) (.node (nU
  0) (lA (nU 0) 15) (fA 16)) (.node (nU 0) (lA (nU 0) 15) (fA 16)))))) (.node (nU 0) (.node (nU 0) (.node (nU 0) (.node (nU 0) (.node (nU 0) (lA (nU 0) 15) (fA 16)) (.node (nU 0) (lA
  (nU 0) 15) (fA 16))) (.node (nU 0) (.node (nU 0) (lA (nU 0) 15) (fA 16)) (.node (nU 0) (lA (nU 0) 15) (fA 16)))) (.node (nU 0) (.node (nU 0) (.node (nU 0) (lA (nU 0) 15) (fA 16))
  (.node (nU 0) (lA (nU 0) 15) (fA 16))) (.node (nU 0) (.node (nU 0) (lA (nU 0) 15) (fA 16)) (.node (nU 0) (lA (nU 0) 15) (fA 16))))) (.node (nU 0) (.node (nU 0) (.node (nU 0) (.node
  (nU 0) (lA (nU 0) 15) (fA 16)) (.node (nU 0) (lA (nU 0) 15) (fA 16))) (.node (nU 0) (.node (nU 0) (lA (nU 0) 15) (fA 16)) (.node (nU 0) (lA (nU 0) 15) (fA 16)))) (.node (nU 0)
  (.node (nU 0) (.node (nU 0) (lA (nU 0) 15) (fA 16)) (.node (nU 0) (lA (nU 0) 15) (fA 16))) (.node (nU 0) (.node (nU 0) (lA (nU 0) 15) (fA 16)) (.node (nU 0) (lA (nU 0) 15) (fA
  16))))))) (.node (nU 0) (.node (nU 0) (.node (nU 0) (.node (nU 0) (.node (nU 0) (.node (nU 1) (lA (nU 0) 15) (fA 16)) (.node (nU 0) (lA (nU 0) 15) (fA 16))) (.node (nU 0) (.node
  (nU 0) (lA (nU 0) 15) (fA 16)) (.node (nU 0) (lA (nU 0) 15) (fA 16)))) (.node (nU 0) (.node (nU 0) (.node (nU 0) (lA (nU 0) 15) (fA 16)) (.node (nU 0) (lA (nU 0) 15) (fA 16)))
  (.node (nU 0) (.node (nU 0) (lA (nU 0) 15) (fA 16)) (.node (nU 0) (lA (nU 0) 15) (fA 16))))) (.node (nU 0) (.node (nU 0) (.node (nU 0) (.node (nU 0) (lA (nU 0) 15) (fA 16)) (.node
  (nU 0) (lA (nU 0) 15) (fA 16))) (.node (nU 0) (.node (nU 0) (lA (nU 0) 15) (fA 16)) (.node (nU 0) (lA (nU 0) 15) (fA 16)))) (.node (nU 0) (.node (nU 0) (.node (nU 0) (lA (nU 0) 15)
  (fA 16)) (.node (nU 0) (lA (nU 0) 15) (fA 16))) (.node (nU 0) (.node (nU 0) (lA (nU 0) 15) (fA 16)) (.node (nU 0) (lA (nU 0) 15) (fA 16)))))) (.node (nU 0) (.node (nU 0) (.node (nU
  0) (.node (nU 0) (.node (nU 0) (lA (nU 0) 15) (fA 16)) (.node (nU 0) (lA (nU 0) 15) (fA 16))) (.node (nU 0) (.node (nU 0) (lA (nU 0) 15) (fA 16)) (.node (nU 0) (lA (nU 0) 15) (fA
  16)))) (.node (nU 0) (.node (nU 0) (.node (nU 0) (lA (nU 0) 15) (fA 16)) (.node (nU 0) (lA (nU 0) 15) (fA 16))) (.node (nU 0) (.node (nU 0) (lA (nU 0) 15) (fA 16)) (.node (nU 0)
  (lA (nU 0) 15) (fA 16))))) (.node (nU 0) (.node (nU 0) (.node (nU 0) (.node (nU 0) (lA (nU 0) 15) (fA 16)) (.node (nU 0) (lA (nU 0) 15) (fA 16))) (.node (nU 0) (.node (nU 0) (lA
  (nU 0) 15) (fA 16)) (.node (nU 0) (lA (nU 0) 15) (fA 16)))) (.node (nU 0) (.node (nU 0) (.node (nU 0) (lA (nU 0) 15) (fA 16)) (.node (nU 0) (lA (nU 0) 15) (fA 16))) (.node (nU 0)
  (.node (nU 0) (lA (nU 0) 15) (fA 16)) (.node (nU 0) (lA (nU 0) 15) (fA 16)))))))) (.node (nU 1088) (.node (nU 0) (.node (nU 0) (.node (nU 0) (.node (nU 0) (.node (nU 0) (.node (nU
  3) (lA (nU 0) 15) (fA 16)) (.node (nU 0) (lA (nU 0) 15) (fA 16))) (.node (nU 0) (.node (nU 0) (lA (nU 0) 15) (fA 16)) (.node (nU 0) (lA (nU 0) 15) (fA 16)))) (.node (nU 0) (.node
  (nU 0) (.node (nU 0) (lA (nU 0) 15) (fA 16)) (.node (nU 0) (lA (nU 0) 15) (fA 16))) (.node (nU 0) (.node (nU 0) (lA (nU 0) 15) (fA 16)) (.node (nU 0) (lA (nU 0) 15) (fA 16)))))
  (.node (nU 0) (.node (nU 0) (.node (nU 0) (.node (nU 5495893775785918464) (lA (nU 0) 15) (fA 16)) (.node (nU 0) (lA (nU 0) 15) (fA 16))) (.node (nU 0) (.node (nU 0) (lA (nU 0) 15)
  (fA 16)) (.node (nU 0) (lA (nU 0) 15) (fA 16)))) (.node (nU 0) (.node (nU 0) (.node (nU 0) (lA (nU 0) 15) (fA 16)) (.node (nU 0) (lA (nU 0) 15) (fA 16))) (.node (nU 0) (.node (nU
  0) (lA (nU 0) 15) (fA 16)) (.node (nU 0) (lA (nU 0) 15) (fA 16)))))) (.node (nU 0) (.node (nU 0) (.node (nU 0) (.node (nU 0) (.node (nU 0) (lA (nU 0) 15) (fA 16)) (.node (nU 0) (lA
  (nU 0) 15) (fA 16))) (.node (nU 0) (.node (nU 0) (lA (nU 0) 15) (fA 16)) (.node (nU 0) (lA (nU 0) 15) (fA 16)))) (.node (nU 0) (.node (nU 0) (.node (nU 0) (lA (nU 0) 15) (fA 16))
  (.node (nU 0) (lA (nU 0) 15) (fA 16))) (.node (nU 0) (.node (nU 0) (lA (nU 0) 15) (fA 16)) (.node (nU 0) (lA (nU 0) 15) (fA 16))))) (.node (nU 0) (.node (nU 0) (.node (nU 0) (.node
  (nU 1088) (lA (nU 0) 15) (fA 16)) (.node (nU 0) (lA (nU 0) 15) (fA 16))) (.node (nU 0) (.node (nU 0) (lA (nU 0) 15) (fA 16)) (.node (nU 0) (lA (nU 0) 15) (fA 16)))) (.node (nU 0)
  (.node (nU 0) (.node (nU 0) (lA (nU 0) 15) (fA 16)) (.node (nU 0) (lA (nU 0) 15) (fA 16))) (.node (nU 0) (.node (nU 0) (lA (nU 0) 15) (fA 16)) (.node (nU 0) (lA (nU 0) 15) (fA
  16))))))) (.node (nU 0) (.node (nU 0) (.node (nU 0) (.node (nU 0) (.node (nU 0) (.node (nU 0) (lA (nU 0) 15) (fA 16)) (.node (nU 0) (lA (nU 0) 15) (fA 16))) (.node (nU 0) (.node
  (nU 0) (lA (nU 0) 15) (fA 16)) (.node (nU 0) (lA (nU 0) 15) (fA 16)))) (.node (nU 0) (.node (nU 0) (.node (nU 0) (lA (nU 0) 15) (fA 16)) (.node (nU 0) (lA (nU 0) 15) (fA 16)))
  (.node (nU 0) (.node (nU 0) (lA (nU 0) 15) (fA 16)) (.node (nU 0) (lA (nU 0) 15) (fA 16))))) (.node (nU 0) (.node (nU 0) (.node (nU 0) (.node (nU 0) (lA (nU 0) 15) (fA 16)) (.node
  (nU 0) (lA (nU 0) 15) (fA 16))) (.node (nU 0) (.node (nU 0) (lA (nU 0) 15) (fA 16)) (.node (nU 0) (lA (nU 0) 15) (fA 16)))) (.node (nU 0) (.node (nU 0) (.node (nU 0) (lA (nU 0) 15)
  (fA 16)) (.node (nU 0) (lA (nU 0) 15) (fA 16))) (.node (nU 0) (.node (nU 0) (lA (nU 0) 15) (fA 16)) (.node (nU 0) (lA (nU 0) 15) (fA 16)))))) (.node (nU 0) (.node (nU 0) (.node (nU
  0) (.node (nU 0) (.node (nU 0) (lA (nU 0) 15) (fA 16)) (.node (nU 0) (lA (nU 0) 15) (fA 16))) (.node (nU 0) (.node (nU 0) (lA (nU 0) 15) (fA 16)) (.node (nU 0) (lA (nU 0) 15) (fA
  16)))) (.node (nU 0) (.node (nU 0) (.node (nU 0) (lA (nU 0) 15) (fA 16)) (.node (nU 0) (lA (nU 0) 15) (fA 16))) (.node (nU 0) (.node (nU 0) (lA (nU 0) 15) (fA 16)) (.node (nU 0)
  (lA (nU 0) 15) (fA 16))))) (.node (nU 0) (.node (nU 0) (.node (nU 0) (.node (nU 0) (lA (nU 0) 15) (fA 16)) (.node (nU 0) (lA (nU 0) 15) (fA 16))) (.node (nU 0) (.node (nU 0) (lA
  (nU 0) 15) (fA 16)) (.node (nU 0) (lA (nU 0) 15) (fA 16)))) (.node (nU 0) (.node (nU 0) (.node (nU 0) (lA (nU 0) 15) (fA 16)) (.node (nU 0) (lA (nU 0) 15) (fA 16))) (.node (nU 0)
  (.node (nU 0) (lA (nU 0) 15) (fA 16)) (.node (nU 0) (lA (nU 0) 15) (fA 16))))))))) false false) 14)) (fD 16)) (fD 17)) (fD 18)))) (.node .dead (.node .dead (.node .dead (.node
  .dead (.node .dead (fD 16) (.node .dead (fD 15) (lD (.cells 170 1 1 (lA (.sl 892 0 0 1 (.u 892 0)) 23) false false) 14))) (fD 17)) (fD 18)) (fD 19)) (.node .dead (.node .dead (fD
  18) (.node .dead (fD 17) (.node .dead (.node .dead (fD 15) (lD (.cells 227 34 34 (.node (.ptr 873 0) (.node (nI 1) (.node (nI 0) (.node (nU 0) (.node (nU 0) (lA (.fn (.func 102)
  [(.ptr 875 0)] []) 18) (fA 19)) (lA (nU 0) 19)) (.node (nU 0) (lA (nU 0) 19) (lA (.bool false) 19))) (.node (nI 0) (.node (nU 0) (.node (nU 0) (lA (nI 0) 18) (fA 19)) (lA (nU 0)
  19)) (.node (nU 0) (lA (nU 0) 19) (lA (nU 0) 19)))) (.node (nU 1) (.node (nU 0) (.node (nU 0) (.node (nU 0) (lA (.bool false) 18) (fA 19)) (lA (nU 0) 19)) (.node (nU 0) (lA (nU 0)
  19) (lA (nU 0) 19))) (.node (nU 0) (.node (nU 0) (lA (nU 0) 19) (lA (nU 0) 19)) (.node (nU 0) (lA (nU 0) 19) (lA .nilif 19))))) true false) 14)) (fD 16)))) (.node .dead (.node
  .dead (.node .dead (.node .dead (fD 15) (lD (.map [⟨(nU 1088), (nI 2), 0⟩] 1) 14)) (fD 16)) (fD 17)) (fD 18))))) (.node .dead (.node .dead (.node (.map [] 0) (.node .dead (fD 18)
  (.node .dead (.node .dead (.node .dead (fD 15) (lD (.cells 271 1 1 (lA (.sl 847 0 0 4 (.u 847 0)) 23) true false) 14)) (fD 16)) (fD 17))) (.node .dead (fD 18) (.node .dead (fD 17)
  (.node .dead (.node .dead (fD 15) (lD (.cells 45 4 4 (.node (nI 2) (.node (.sl 880 0 0 1 (.k 1)) (lA (nI 0) 21) (fA 22)) (lA (nI 4) 22)) true false) 14)) (fD 16))))) (.node .dead
  (.node .dead (.node .dead (.node .dead (fD 16) (.node .dead (fD 15) (lD (.defd (some [])) 14))) (fD 17)) (.node .dead (fD 17) (.node .dead (.node .dead (fD 15) (lD (.cells 125 3 3
  (.node (.ptr 18 0) (lA (.ptr 796 0) 22) (lA (.ptr 872 0) 22)) true false) 14)) (fD 16)))) (.node .dead (.node .dead (.node .dead (.node .dead (fD 15) (lD (.cells 25 1 384 (.node
  (nU 5929342154728227142) (.node (nU 3072) (.node (nU 18446744073709548543) (.node (nU 0) (.node (nU 0) (.node (nU 0) (.node (nU 0) (.node (nU 0) (lA (nU 0) 15) (lA (nU 0) 15))
  (.node (nU 0) (lA (nU 0) 15) (fA 16))) (.node (nU 0) (.node (nU 0) (lA (nU 0) 15) (fA 16)) (.node (nU 0) (lA (nU 0) 15) (fA 16)))) (.node (nU 0) (.node (nU 0) (.node (nU 0) (lA (nU
  0) 15) (fA 16)) (.node (nU 0) (lA (nU 0) 15) (fA 16))) (.node (nU 0) (.node (nU 0) (lA (nU 0) 15) (fA 16)) (.node (nU 0) (lA (nU 0) 15) (fA 16))))) (.node (nU 0) (.node (nU 0)
  (.node (nU 0) (.node (nU 0) (lA (nU 0) 15) (fA 16)) (.node (nU 0) (lA (nU 0) 15) (fA 16))) (.node (nU 0) (.node (nU 0) (lA (nU 0) 15) (fA 16)) (.node (nU 0) (lA (nU 0) 15) (fA
  16)))) (.node (nU 0) (.node (nU 0) (.node (nU 0) (lA (nU 0) 15) (fA 16)) (.node (nU 0) (lA (nU 0) 15) (fA 16))) (.node (nU 0) (.node (nU 0) (lA (nU 0) 15) (fA 16)) (.node (nU 0)
  (lA (nU 0) 15) (fA 16)))))) (.node (nU 0) (.node (nU 0) (.node (nU 0) (.node (nU 0) (.node (nU 0) (lA (nU 0) 15) (fA 16)) (.node (nU 0) (lA (nU 0) 15) (fA 16))) (.node (nU 0)
  (.node (nU 0) (lA (nU 0) 15) (fA 16)) (.node (nU 0) (lA (nU 0) 15) (fA 16)))) (.node (nU 0) (.node (nU 0) (.node (nU 0) (lA (nU 0) 15) (fA 16)) (.node (nU 0) (lA (nU 0) 15) (fA
  16))) (.node (nU 0) (.node (nU 0) (lA (nU 0) 15) (fA 16)) (.node (nU 0) (lA (nU 0) 15) (fA 16))))) (.node (nU 0) (.node (nU 0) (.node (nU 0) (.node (nU 0) (lA (nU 0) 15) (fA 16))
  (.node (nU 0) (lA (nU 0) 15) (fA 16))) (.node (nU 0) (.node (nU 0) (lA (nU 0) 15) (fA 16)) (.node (nU 0) (lA (nU 0) 15) (fA 16)))) (.node (nU 0) (.node (nU 0) (.node (nU 0) (lA (nU
  0) 15) (fA 16)) (.node (nU 0) (lA (nU 0) 15) (fA 16))) (.node (nU 0) (.node (nU 0) (lA (nU 0) 15) (fA 16)) (.node (nU 0) (lA (nU 0) 15) (fA 16))))))) (.node (nU 0) (.node (nU 0)
  (.node (nU 0) (.node (nU 0) (.node (nU 0) (.node (nU 1) (lA (nU 0) 15) (fA 16)) (.node (nU 0) (lA (nU 0) 15) (fA 16))) (.node (nU 0) (.node (nU 0) (lA (nU 0) 15) (fA 16)) (.node
  (nU 0) (lA (nU 0) 15) (fA 16)))) (.node (nU 0) (.node (nU 0) (.node (nU 0) (lA (nU 0) 15) (fA 16)) (.node (nU 0) (lA (nU 0) 15) (fA 16))) (.node (nU 0) (.node (nU 0) (lA (nU 0) 15)
  (fA 16)) (.node (nU 0) (lA (nU 0) 15) (fA 16))))) (.node (nU 0) (.node (nU 0) (.node (nU 0) (.node (nU 0) (lA (nU 0) 15) (fA 16)) (.node (nU 0) (lA (nU 0) 15) (fA 16))) (.node (nU
  0) (.node (nU 0) (lA (nU 0) 15) (fA 16)) (.node (nU 0) (lA (nU 0) 15) (fA 16)))) (.node (nU 0) (.node (nU 0) (.node (nU 0) (lA (nU 0) 15) (fA 16)) (.node (nU 0) (lA (nU 0) 15) (fA
  16))) (.node (nU 0) (.node (nU 0) (lA (nU 0) 15) (fA 16)) (.node (nU 0) (lA (nU 0) 15) (fA 16)))))) (.node (nU 0) (.node (nU 0) (.node (nU 0) (.node (nU 0) (.node (nU 0) (lA (nU 0)
  15) (fA 16)) (.node (nU 0) (lA (nU 0) 15) (fA 16))) (.node (nU 0) (.node (nU 0) (lA (nU 0) 15) (fA 16)) (.node (nU 0) (lA (nU 0) 15) (fA 16)))) (.node (nU 0) (.node (nU 0) (.node
  (nU 0) (lA (nU 0) 15) (fA 16)) (.node (nU 0) (lA (nU 0) 15) (fA 16))) (.node (nU 0) (.node (nU 0) (lA (nU 0) 15) (fA 16)) (.node (nU 0) (lA (nU 0) 15) (fA 16))))) (.node (nU 0)
  (.node (nU 0) (.node (nU 0) (.node (nU 0) (lA (nU 0) 15) (fA 16)) (.node (nU 0) (lA (nU 0) 15) (fA 16))) (.node (nU 0) (.node (nU 0) (lA (nU 0) 15) (fA 16)) (.node (nU 0) (lA (nU
  0) 15) (fA 16)))) (.node (nU 0) (.node (nU 0) (.node (nU 0) (lA (nU 0) 15) (fA 16)) (.node (nU 0) (lA (nU 0) 15) (fA 16))) (.node (nU 0) (.node (nU 0) (lA (nU 0) 15) (fA 16))
  (.node (nU 0) (lA (nU 0) 15) (fA 16)))))))) (.node (nU 1088) (.node (nU 0) (.node (nU 0) (.node (nU 0) (.node (nU 0) (.node (nU 0) (.node (nU 3) (lA (nU 0) 15) (fA 16)) (.node (nU
  0) (lA (nU 0) 15) (fA 16))) (.node (nU 0) (.node (nU 0) (lA (nU 0) 15) (fA 16)) (.node (nU 0) (lA (nU 0) 15) (fA 16)))) (.node (nU 0) (.node (nU 0) (.node (nU 0) (lA (nU 0) 15) (fA
  16)) (.node (nU 0) (lA (nU 0) 15) (fA 16))) (.node (nU 0) (.node (nU 0) (lA (nU 0) 15) (fA 16)) (.node (nU 0) (lA (nU 0) 15) (fA 16))))) (.node (nU 0) (.node (nU 0) (.node (nU 0)
  (.node (nU 5495893775785918464) (lA (nU 0) 15) (fA 16)) (.node (nU 0) (lA (nU 0) 15) (fA 16))) (.node (nU 0) (.node (nU 0) (lA (nU 0) 15) (fA 16)) (.node (nU 0) (lA (nU 0) 15) (fA
  16)))) (.node (nU 0) (.node (nU 0) (.node (nU 0) (lA (nU 0) 15) (fA 16)) (.node (nU 0) (lA (nU 0) 15) (fA 16))) (.node (nU 0) (.node (nU 0) (lA (nU 0) 15) (fA 16)) (.node (nU 0)
  (lA (nU 0) 15) (fA 16)))))) (.node (nU 0) (.node (nU 0) (.node (nU 0) (.node (nU 0) (.node (nU 0) (lA (nU 0) 15) (fA 16)) (.node (nU 0) (lA (nU 0) 15) (fA 16))) (.node (nU 0)
  (.node (nU 0) (lA (nU 0) 15) (fA 16)) (.node (nU 0) (lA (nU 0) 15) (fA 16)))) (.node (nU 0) (.node (nU 0) (.node (nU 0) (lA (nU 0) 15) (fA 16)) (.node (nU 0) (lA (nU 0) 15) (fA
  16))) (.node (nU 0) (.node (nU 0) (lA (nU 0) 15) (fA 16)) (.node (nU 0) (lA (nU 0) 15) (fA 16))))) (.node (nU 0) (.node (nU 0) (.node (nU 0) (.node (nU 1088) (lA (nU 0) 15) (fA
  16)) (.node (nU 0) (lA (nU 0) 15) (fA 16))) (.node (nU 0) (.node (nU 0) (lA (nU 0) 15) (fA 16)) (.node (nU 0) (lA (nU 0) 15) (fA 16)))) (.node (nU 0) (.node (nU 0) (.node (nU 0)
  (lA (nU 0) 15) (fA 16)) (.node (nU 0) (lA (nU 0) 15) (fA 16))) (.node (nU 0) (.node (nU 0) (lA (nU 0) 15) (fA 16)) (.node (nU 0) (lA (nU 0) 15) (fA 16))))))) (.node (nU 0) (.node
  (nU 0) (.node (nU 0) (.node (nU 0) (.node (nU 0) (.node (nU 0) (lA (nU 0) 15) (fA 16)) (.node (nU 0) (lA (nU 0) 15) (fA 16))) (.node (nU 0) (.node (nU 0) (lA (nU 0) 15) (fA 16))
  (.node (nU 0) (lA (nU 0) 15) (fA 16)))) (.node (nU 0) (.node (nU 0) (.node (nU 0) (lA (nU 0) 15) (fA 16)) (.node (nU 0) (lA (nU 0) 15) (fA 16))) (.node (nU 0) (.node (nU 0) (lA (nU
  0) 15) (fA 16)) (.node (nU 0) (lA (nU 0) 15) (fA 16))))) (.node (nU 0) (.node (nU 0) (.node (nU 0) (.node (nU 0) (lA (nU 0) 15) (fA 16)) (.node (nU 0) (lA (nU 0) 15) (fA 16)))
  (.node (nU 0) (.node (nU 0) (lA (nU 0) 15) (fA 16)) (.node (nU 0) (lA (nU 0) 15) (fA 16)))) (.node (nU 0) (.node (nU 0) (.node (nU 0) (lA (nU 0) 15) (fA 16)) (.node (nU 0) (lA (nU
  0) 15) (fA 16))) (.node (nU 0) (.node (nU 0) (lA (nU 0) 15) (fA 16)) (.node (nU 0) (lA (nU 0) 15) (fA 16)))))) (.node (nU 0) (.node (nU 0) (.node (nU 0) (.node (nU 0) (.node (nU 0)
  (lA (nU 0) 15) (fA 16)) (.node (nU 0) (lA (nU 0) 15) (fA 16))) (.node (nU 0) (.node (nU 0) (lA (nU 0) 15) (fA 16)) (.node (nU 0) (lA (nU 0) 15) (fA 16)))) (.node (nU 0) (.node (nU
  0) (.node (nU 0) (lA (nU 0) 15) (fA 16)) (.node (nU 0) (lA (nU 0) 15) (fA 16))) (.node (nU 0) (.node (nU 0) (lA (nU 0) 15) (fA 16)) (.node (nU 0) (lA (nU 0) 15) (fA 16))))) (.node
  (nU 0) (.node (nU 0) (.node (nU 0) (.node (nU 0) (lA (nU 0) 15) (fA 16)) (.node (nU 0) (lA (nU 0) 15) (fA 16))) (.node (nU 0) (.node (nU 0) (lA (nU 0) 15) (fA 16)) (.node (nU 0)
  (lA (nU 0) 15) (fA 16)))) (.node (nU 0) (.node (nU 0) (.node (nU 0) (lA (nU 0) 15) (fA 16)) (.node (nU 0) (lA (nU 0) 15) (fA 16))) (.node (nU 0) (.node (nU 0) (lA (nU 0) 15) (fA
  16)) (.node (nU 0) (lA (nU 0) 15) (fA 16))))))))) false false) 14)) (fD 16)) (fD 17)) (fD 18)))) (.node .dead (.node .dead (.node .dead (.node .dead (.node .dead (fD 16) (.node
  .dead (fD 15) (lD (.cells 128 7 7 (.node .nilsl (.node (.sl 1448 0 0 271 (.u 1448 0)) (lA (nU 0) 21) (lA (nU 0) 21)) (.node (.map 900) (lA (nU 0) 21) (lA (nU 0) 21))) true false)
  14))) (fD 17)) (fD 18)) (.node .dead (fD 18) (.node .dead (fD 17) (.node .dead (.node .dead (fD 15) (lD (.cells 5 1 3072 (.node (nB 70) (.node (nB 65) (.node (nB 84) (.node (nB 82)
  (.node (nB 0) (.node (nB 255) (.node (nB 0) (.node (nB 0) (.node (nB 0) (fB 15) (.node (nB 0) (lB (nB 0) 13) (fB 14))) (.node (nB 0) (.node (nB 0) (lB (nB 0) 13) (fB 14)) (fB 15)))
  (.node (nB 0) (fB 16) (.node (nB 0) (.node (nB 0) (lB (nB 0) 13) (fB 14)) (fB 15)))) (.node (nB 0) (.node (nB 0) (fB 16) (.node (nB 0) (.node (nB 0) (lB (nB 0) 13) (fB 14)) (fB
  15))) (.node (nB 0) (.node (nB 0) (.node (nB 0) (lB (nB 0) 13) (fB 14)) (fB 15)) (.node (nB 0) (.node (nB 0) (lB (nB 0) 13) (fB 14)) (fB 15))))) (.node (nB 0) (.node (nB 0) (.node
  (nB 0) (.node (nB 0) (.node (nB 0) (lB (nB 0) 13) (fB 14)) (fB 15)) (.node (nB 0) (.node (nB 0) (lB (nB 0) 13) (fB 14)) (fB 15))) (.node (nB 0) (.node (nB 0) (.node (nB 0) (lB (nB
  0) 13) (fB 14)) (fB 15)) (.node (nB 0) (.node (nB 0) (lB (nB 0) 13) (fB 14)) (fB 15)))) (.node (nB 0) (.node (nB 0) (fB 16) (.node (nB 0) (.node (nB 0) (lB (nB 0) 13) (fB 14)) (fB
  15))) (.node (nB 0) (.node (nB 0) (.node (nB 0) (lB (nB 0) 13) (fB 14)) (fB 15)) (.node (nB 0) (.node (nB 0) (lB (nB 0) 13) (fB 14)) (fB 15)))))) (.node (nB 0) (.node (nB 0) (.node
  (nB 0) (.node (nB 0) (.node (nB 0) (.node (nB 0) (lB (nB 0) 13) (fB 14)) (fB 15)) (.node (nB 0) (.node (nB 0) (lB (nB 0) 13) (fB 14)) (fB 15))) (.node (nB 0) (.node (nB 0) (.node
  (nB 0) (.node (nB 0) (lB (nB 76) 12) (fB 13)) (fB 14)) (fB 15)) (.node (nB 0) (.node (nB 0) (lB (nB 0) 13) (fB 14)) (fB 15)))) (.node (nB 0) (.node (nB 0) (fB 16) (.node (nB 0)
  (.node (nB 0) (lB (nB 0) 13) (fB 14)) (fB 15))) (.node (nB 0) (.node (nB 0) (.node (nB 0) (lB (nB 0) 13) (fB 14)) (fB 15)) (.node (nB 0) (.node (nB 0) (lB (nB 0) 13) (fB 14)) (fB
  15))))) (.node (nB 0) (.node (nB 0) (.node (nB 0) (fB 16) (.node (nB 0) (.node (nB 0) (lB (nB 0) 13) (fB 14)) (fB 15))) (.node (nB 0) (.node (nB 0) (.node (nB 0) (lB (nB 0) 13) (fB
  14)) (fB 15)) (.node (nB 0) (.node (nB 0) (lB (nB 0) 13) (fB 14)) (fB 15)))) (.node (nB 0) (.node (nB 0) (fB 16) (.node (nB 0) (.node (nB 0) (lB (nB 0) 13) (fB 14)) (fB 15)))
  (.node (nB 0) (.node (nB 0) (.node (nB 0) (lB (nB 0) 13) (fB 14)) (fB 15)) (.node (nB 0) (.node (nB 0) (lB (nB 0) 13) (fB 14)) (fB 15))))))) (.node (nB 0) (.node (nB 0) (.node (nB
  0) (.node (nB 0) (.node (nB 0) (.node (nB 0) (.node (nB 0) (lB (nB 0) 13) (fB 14)) (fB 15)) (.node (nB 0) (.node (nB 0) (lB (nB 0) 13) (fB 14)) (fB 15))) (.node (nB 0) (.node (nB
  0) (.node (nB 0) (.node (nB 0) (lB (nB 69) 12) (fB 13)) (fB 14)) (fB 15)) (.node (nB 0) (.node (nB 0) (lB (nB 0) 13) (fB 14)) (fB 15)))) (.node (nB 0) (.node (nB 0) (fB 16) (.node
  (nB 0) (.node (nB 0) (lB (nB 0) 13) (fB 14)) (fB 15))) (.node (nB 0) (.node (nB 0) (.node (nB 0) (lB (nB 0) 13) (fB 14)) (fB 15)) (.node (nB 0) (.node (nB 0) (lB (nB 0) 13) (fB
  14)) (fB 15))))) (.node (nB 0) (.node (nB 0) (.node (nB 0) (fB 16) (.node (nB 0) (.node (nB 0) (lB (nB 0) 13) (fB 14)) (fB 15))) (.node (nB 0) (.node (nB 0) (.node (nB 0) (lB (nB
  0) 13) (fB 14)) (fB 15)) (.node (nB 0) (.node (nB 0) (lB (nB 0) 13) (fB 14)) (fB 15)))) (.node (nB 0) (.node (nB 0) (fB 16) (.node (nB 0) (.node (nB 0) (lB (nB 0) 13) (fB 14)) (fB
  15))) (.node (nB 0) (.node (nB 0) (.node (nB 0) (lB (nB 0) 13) (fB 14)) (fB 15)) (.node (nB 0) (.node (nB 0) (lB (nB 0) 13) (fB 14)) (fB 15)))))) (.node (nB 255) (.node (nB 0)
  (.node (nB 0) (.node (nB 0) (.node (nB 0) (.node (nB 0) (lB (nB 0) 13) (fB 14)) (fB 15)) (.node (nB 0) (.node (nB 0) (lB (nB 0) 13) (fB 14)) (fB 15))) (.node (nB 0) (.node (nB 0)
  (.node (nB 0) (lB (nB 0) 13) (fB 14)) (fB 15)) (.node (nB 0) (.node (nB 0) (lB (nB 0) 13) (fB 14)) (fB 15)))) (.node (nB 0) (.node (nB 0) (fB 16) (.node (nB 0) (.node (nB 0) (lB
  (nB 0) 13) (fB 14)) (fB 15))) (.node (nB 0) (.node (nB 0) (.node (nB 0) (lB (nB 0) 13) (fB 14)) (fB 15)) (.node (nB 0) (.node (nB 0) (lB (nB 0) 13) (fB 14)) (fB 15))))) (.node (nB
  0) (.node (nB 0) (.node (nB 0) (fB 16) (.node (nB 0) (.node (nB 0) (lB (nB 0) 13) (fB 14)) (fB 15))) (.node (nB 0) (.node (nB 0) (.node (nB 0) (lB (nB 0) 13) (fB 14)) (fB 15))
  (.node (nB 0) (.node (nB 0) (lB (nB 0) 13) (fB 14)) (fB 15)))) (.node (nB 0) (.node (nB 0) (fB 16) (.node (nB 0) (.node (nB 0) (lB (nB 0) 13) (fB 14)) (fB 15))) (.node (nB 0)
  (.node (nB 0) (.node (nB 0) (lB (nB 0) 13) (fB 14)) (fB 15)) (.node (nB 0) (.node (nB 0) (lB (nB 0) 13) (fB 14)) (fB 15)))))))) (.node (nB 65) (.node (nB 12) (.node (nB 8) (.node
  (nB 0) (.node (nB 0) (.node (nB 0) (.node (nB 0) (.node (nB 0) (lB (nB 0) 13) (fB 14)) (fB 15)) (.node (nB 0) (.node (nB 0) (lB (nB 0) 13) (fB 14)) (fB 15))) (.node (nB 0) (.node
  (nB 0) (.node (nB 0) (lB (nB 0) 13) (fB 14)) (fB 15)) (.node (nB 0) (.node (nB 0) (lB (nB 0) 13) (fB 14)) (fB 15)))) (.node (nB 0) (.node (nB 0) (fB 16) (.node (nB 0) (.node (nB 0)
  (lB (nB 0) 13) (fB 14)) (fB 15))) (.node (nB 0) (.node (nB 0) (.node (nB 0) (.node (nB 0) (lB (nB 8) 12) (fB 13)) (fB 14)) (fB 15)) (.node (nB 0) (.node (nB 0) (lB (nB 0) 13) (fB
  14)) (fB 15))))) (.node (nB 0) (.node (nB 0) (.node (nB 0) (fB 16) (.node (nB 0) (.node (nB 0) (lB (nB 0) 13) (fB 14)) (fB 15))) (.node (nB 0) (.node (nB 0) (.node (nB 0) (lB (nB
  0) 13) (fB 14)) (fB 15)) (.node (nB 0) (.node (nB 0) (lB (nB 0) 13) (fB 14)) (fB 15)))) (.node (nB 0) (.node (nB 0) (fB 16) (.node (nB 0) (.node (nB 0) (lB (nB 0) 13) (fB 14)) (fB
  15))) (.node (nB 0) (.node (nB 0) (.node (nB 0) (lB (nB 0) 13) (fB 14)) (fB 15)) (.node (nB 0) (.node (nB 0) (lB (nB 0) 13) (fB 14)) (fB 15)))))) (.node (nB 243) (.node (nB 0)
  (.node (nB 0) (.node (nB 0) (.node (nB 0) (.node (nB 0) (lB (nB 0) 13) (fB 14)) (fB 15)) (.node (nB 0) (.node (nB 0) (.node (nB 0) (lB (nB 4) 12) (fB 13)) (fB 14)) (fB 15))) (.node
  (nB 0) (.node (nB 0) (.node (nB 0) (lB (nB 0) 13) (fB 14)) (fB 15)) (.node (nB 0) (.node (nB 0) (lB (nB 0) 13) (fB 14)) (fB 15)))) (.node (nB 0) (.node (nB 0) (fB 16) (.node (nB 0)
  (.node (nB 0) (lB (nB 0) 13) (fB 14)) (fB 15))) (.node (nB 0) (.node (nB 0) (.node (nB 0) (lB (nB 0) 13) (fB 14)) (fB 15)) (.node (nB 0) (.node (nB 0) (lB (nB 0) 13) (fB 14)) (fB
  15))))) (.node (nB 0) (.node (nB 0) (.node (nB 0) (fB 16) (.node (nB 0) (.node (nB 0) (lB (nB 0) 13) (fB 14)) (fB 15))) (.node (nB 0) (.node (nB 0) (.node (nB 0) (lB (nB 0) 13) (fB
  14)) (fB 15)) (.node (nB 0) (.node (nB 0) (lB (nB 0) 13) (fB 14)) (fB 15)))) (.node (nB 0) (.node (nB 0) (fB 16) (.node (nB 0) (.node (nB 0) (lB (nB 0) 13) (fB 14)) (fB 15)))
  (.node (nB 0) (.node (nB 0) (.node (nB 0) (lB (nB 0) 13) (fB 14)) (fB 15)) (.node (nB 0) (.node (nB 0) (lB (nB 0) 13) (fB 14)) (fB 15))))))) (.node (nB 0) (.node (nB 0) (.node (nB
  0) (.node (nB 0) (.node (nB 0) (.node (nB 0) (.node (nB 0) (lB (nB 0) 13) (fB 14)) (fB 15)) (.node (nB 0) (.node (nB 0) (lB (nB 0) 13) (fB 14)) (fB 15))) (.node (nB 0) (.node (nB
  0) (.node (nB 0) (.node (nB 0) (lB (nB 86) 12) (fB 13)) (fB 14)) (fB 15)) (.node (nB 0) (.node (nB 0) (lB (nB 0) 13) (fB 14)) (fB 15)))) (.node (nB 0) (.node (nB 0) (fB 16) (.node
  (nB 0) (.node (nB 0) (lB (nB 0) 13) (fB 14)) (fB 15))) (.node (nB 0) (.node (nB 0) (.node (nB 0) (lB (nB 0) 13) (fB 14)) (fB 15)) (.node (nB 0) (.node (nB 0) (lB (nB 0) 13) (fB
  14)) (fB 15))))) (.node (nB 0) (.node (nB 0) (.node (nB 0) (fB 16) (.node (nB 0) (.node (nB 0) (lB (nB 0) 13) (fB 14)) (fB 15))) (.node (nB 0) (.node (nB 0) (.node (nB 0) (lB (nB
  0) 13) (fB 14)) (fB 15)) (.node (nB 0) (.node (nB 0) (lB (nB 0) 13) (fB 14)) (fB 15)))) (.node (nB 0) (.node (nB 0) (fB 16) (.node (nB 0) (.node (nB 0) (lB (nB 0) 13) (fB 14)) (fB
  15))) (.node (nB 0) (.node (nB 0) (.node (nB 0) (lB (nB 0) 13) (fB 14)) (fB 15)) (.node (nB 0) (.node (nB 0) (lB (nB 0) 13) (fB 14)) (fB 15)))))) (.node (nB 255) (.node (nB 0)
  (.node (nB 0) (.node (nB 0) (.node (nB 0) (.node (nB 0) (lB (nB 0) 13) (fB 14)) (fB 15)) (.node (nB 0) (.node (nB 0) (lB (nB 0) 13) (fB 14)) (fB 15))) (.node (nB 0) (.node (nB 0)
  (.node (nB 0) (lB (nB 0) 13) (fB 14)) (fB 15)) (.node (nB 0) (.node (nB 0) (lB (nB 0) 13) (fB 14)) (fB 15)))) (.node (nB 0) (.node (nB 0) (fB 16) (.node (nB 0) (.node (nB 0) (lB
  (nB 0) 13) (fB 14)) (fB 15))) (.node (nB 0) (.node (nB 0) (.node (nB 0) (lB (nB 0) 13) (fB 14)) (fB 15)) (.node (nB 0) (.node (nB 0) (lB (nB 0) 13) (fB 14)) (fB 15))))) (.node (nB
  0) (.node (nB 0) (.node (nB 0) (fB 16) (.node (nB 0) (.node (nB 0) (lB (nB 0) 13) (fB 14)) (fB 15))) (.node (nB 0) (.node (nB 0) (.node (nB 0) (lB (nB 0) 13) (fB 14)) (fB 15))
  (.node (nB 0) (.node (nB 0) (lB (nB 0) 13) (fB 14)) (fB 15)))) (.node (nB 0) (.node (nB 0) (fB 16) (.node (nB 0) (.node (nB 0) (lB (nB 0) 13) (fB 14)) (fB 15))) (.node (nB 0)
  (.node (nB 0) (.node (nB 0) (lB (nB 0) 13) (fB 14)) (fB 15)) (.node (nB 0) (.node (nB 0) (lB (nB 0) 13) (fB 14)) (fB 15))))))))) (.node (nB 83) (.node (nB 70) (.node (nB 0) (.node
  (nB 64) (.node (nB 0) (.node (nB 0) (.node (nB 0) (.node (nB 0) (.node (nB 0) (.node (nB 1) (lB (nB 3) 12) (fB 13)) (fB 14)) (fB 15)) (.node (nB 0) (.node (nB 0) (.node (nB 0) (lB
  (nB 7) 12) (fB 13)) (fB 14)) (fB 15))) (.node (nB 0) (.node (nB 0) (.node (nB 0) (lB (nB 1) 13) (fB 14)) (fB 15)) (.node (nB 0) (.node (nB 0) (lB (nB 0) 13) (fB 14)) (fB 15))))
  (.node (nB 0) (.node (nB 0) (fB 16) (.node (nB 0) (.node (nB 0) (lB (nB 0) 13) (fB 14)) (fB 15))) (.node (nB 0) (.node (nB 0) (.node (nB 0) (.node (nB 0) (lB (nB 64) 12) (fB 13))
  (fB 14)) (fB 15)) (.node (nB 0) (.node (nB 0) (lB (nB 0) 13) (fB 14)) (fB 15))))) (.node (nB 0) (.node (nB 0) (.node (nB 0) (fB 16) (.node (nB 0) (.node (nB 0) (lB (nB 0) 13) (fB
  14)) (fB 15))) (.node (nB 0) (.node (nB 0) (.node (nB 0) (lB (nB 0) 13) (fB 14)) (fB 15)) (.node (nB 0) (.node (nB 0) (lB (nB 0) 13) (fB 14)) (fB 15)))) (.node (nB 0) (.node (nB 0)
  (fB 16) (.node (nB 0) (.node (nB 0) (lB (nB 0) 13) (fB 14)) (fB 15))) (.node (nB 0) (.node (nB 0) (.node (nB 0) (lB (nB 0) 13) (fB 14)) (fB 15)) (.node (nB 0) (.node (nB 0) (lB (nB
  0) 13) (fB 14)) (fB 15)))))) (.node (nB 255) (.node (nB 0) (.node (nB 0) (.node (nB 0) (.node (nB 0) (.node (nB 0) (.node (nB 1) (lB (nB 1) 12) (fB 13)) (fB 14)) (fB 15)) (.node
  (nB 0) (.node (nB 0) (.node (nB 0) (lB (nB 64) 12) (fB 13)) (fB 14)) (fB 15))) (.node (nB 0) (.node (nB 0) (.node (nB 0) (lB (nB 55) 13) (fB 14)) (fB 15)) (.node (nB 0) (.node (nB
  0) (lB (nB 0) 13) (fB 14)) (fB 15)))) (.node (nB 0) (.node (nB 0) (fB 16) (.node (nB 0) (.node (nB 0) (lB (nB 0) 13) (fB 14)) (fB 15))) (.node (nB 0) (.node (nB 0) (.node (nB 0)
  (lB (nB 0) 13) (fB 14)) (fB 15)) (.node (nB 0) (.node (nB 0) (lB (nB 0) 13) (fB 14)) (fB 15))))) (.node (nB 0) (.node (nB 0) (.node (nB 0) (fB 16) (.node (nB 0) (.node (nB 0) (lB
  (nB 0) 13) (fB 14)) (fB 15))) (.node (nB 0) (.node (nB 0) (.node (nB 0) (lB (nB 0) 13) (fB 14)) (fB 15)) (.node (nB 0) (.node (nB 0) (lB (nB 0) 13) (fB 14)) (fB 15)))) (.node (nB
  0) (.node (nB 0) (fB 16) (.node (nB 0) (.node (nB 0) (lB (nB 0) 13) (fB 14)) (fB 15))) (.node (nB 0) (.node (nB 0) (.node (nB 0) (lB (nB 0) 13) (fB 14)) (fB 15)) (.node (nB 0)
  (.node (nB 0) (lB (nB 0) 13) (fB 14)) (fB 15))))))) (.node (nB 0) (.node (nB 0) (.node (nB 0) (.node (nB 0) (.node (nB 0) (.node (nB 0) (.node (nB 0) (lB (nB 0) 13) (fB 14)) (fB
  15)) (.node (nB 0) (.node (nB 0) (lB (nB 0) 13) (fB 14)) (fB 15))) (.node (nB 0) (.node (nB 0) (.node (nB 0) (.node (nB 0) (lB (nB 69) 12) (fB 13)) (fB 14)) (fB 15)) (.node (nB 0)
  (.node (nB 0) (lB (nB 0) 13) (fB 14)) (fB 15)))) (.node (nB 0) (.node (nB 0) (fB 16) (.node (nB 0) (.node (nB 0) (lB (nB 0) 13) (fB 14)) (fB 15))) (.node (nB 0) (.node (nB 0)
  (.node (nB 0) (lB (nB 0) 13) (fB 14)) (fB 15)) (.node (nB 0) (.node (nB 0) (lB (nB 0) 13) (fB 14)) (fB 15))))) (.node (nB 0) (.node (nB 0) (.node (nB 0) (fB 16) (.node (nB 0)
  (.node (nB 0) (lB (nB 0) 13) (fB 14)) (fB 15))) (.node (nB 0) (.node (nB 0) (.node (nB 0) (lB (nB 0) 13) (fB 14)) (fB 15)) (.node (nB 0) (.node (nB 0) (lB (nB 0) 13) (fB 14)) (fB
  15)))) (.node (nB 0) (.node (nB 0) (fB 16) (.node (nB 0) (.node (nB 0) (lB (nB 0) 13) (fB 14)) (fB 15))) (.node (nB 0) (.node (nB 0) (.node (nB 0) (lB (nB 0) 13) (fB 14)) (fB 15))
  (.node (nB 0) (.node (nB 0) (lB (nB 0) 13) (fB 14)) (fB 15)))))) (.node (nB 255) (.node (nB 0) (.node (nB 0) (.node (nB 0) (.node (nB 0) (.node (nB 0) (lB (nB 0) 13) (fB 14)) (fB
  15)) (.node (nB 0) (.node (nB 0) (lB (nB 0) 13) (fB 14)) (fB 15))) (.node (nB 0) (.node (nB 0) (.node (nB 0) (lB (nB 0) 13) (fB 14)) (fB 15)) (.node (nB 0) (.node (nB 0) (lB (nB 0)
  13) (fB 14)) (fB 15)))) (.node (nB 0) (.node (nB 0) (fB 16) (.node (nB 0) (.node (nB 0) (lB (nB 0) 13) (fB 14)) (fB 15))) (.node (nB 0) (.node (nB 0) (.node (nB 0) (lB (nB 0) 13)
  (fB 14)) (fB 15)) (.node (nB 0) (.node (nB 0) (lB (nB 0) 13) (fB 14)) (fB 15))))) (.node (nB 0) (.node (nB 0) (.node (nB 0) (fB 16) (.node (nB 0) (.node (nB 0) (lB (nB 0) 13) (fB
  14)) (fB 15))) (.node (nB 0) (.node (nB 0) (.node (nB 0) (lB (nB 0) 13) (fB 14)) (fB 15)) (.node (nB 0) (.node (nB 0) (lB (nB 0) 13) (fB 14)) (fB 15)))) (.node (nB 0) (.node (nB 0)
  (fB 16) (.node (nB 0) (.node (nB 0) (lB (nB 0) 13) (fB 14)) (fB 15))) (.node (nB 0) (.node (nB 0) (.node (nB 0) (lB (nB 0) 13) (fB 14)) (fB 15)) (.node (nB 0) (.node (nB 0) (lB (nB
  0) 13) (fB 14)) (fB 15)))))))) (.node (nB 73) (.node (nB 0) (.node (nB 0) (.node (nB 0) (.node (nB 0) (.node (nB 0) (.node (nB 0) (.node (nB 0) (lB (nB 0) 13) (fB 14)) (fB 15))
  (.node (nB 0) (.node (nB 0) (lB (nB 0) 13) (fB 14)) (fB 15))) (.node (nB 0) (.node (nB 0) (.node (nB 0) (lB (nB 0) 13) (fB 14)) (fB 15)) (.node (nB 0) (.node (nB 0) (lB (nB 0) 13)
  (fB 14)) (fB 15)))) (.node (nB 0) (.node (nB 0) (fB 16) (.node (nB 0) (.node (nB 0) (lB (nB 0) 13) (fB 14)) (fB 15))) (.node (nB 0) (.node (nB 0) (.node (nB 0) (lB (nB 0) 13) (fB
  14)) (fB 15)) (.node (nB 0) (.node (nB 0) (lB (nB 0) 13) (fB 14)) (fB 15))))) (.node (nB 0) (.node (nB 0) (.node (nB 0) (fB 16) (.node (nB 0) (.node (nB 0) (lB (nB 0) 13) (fB 14))
  (fB 15))) (.node (nB 0) (.node (nB 0) (.node (nB 0) (lB (nB 0) 13) (fB 14)) (fB 15)) (.node (nB 0) (.node (nB 0) (lB (nB 0) 13) (fB 14)) (fB 15)))) (.node (nB 0) (.node (nB 0) (fB
  16) (.node (nB 0) (.node (nB 0) (lB (nB 0) 13) (fB 14)) (fB 15))) (.node (nB 0) (.node (nB 0) (.node (nB 0) (lB (nB 0) 13) (fB 14)) (fB 15)) (.node (nB 0) (.node (nB 0) (lB (nB 0)
  13) (fB 14)) (fB 15)))))) (.node (nB 255) (.node (nB 0) (.node (nB 0) (.node (nB 0) (.node (nB 0) (.node (nB 0) (lB (nB 0) 13) (fB 14)) (fB 15)) (.node (nB 0) (.node (nB 0) (lB (nB
  0) 13) (fB 14)) (fB 15))) (.node (nB 0) (.node (nB 0) (.node (nB 0) (lB (nB 0) 13) (fB 14)) (fB 15)) (.node (nB 0) (.node (nB 0) (lB (nB 0) 13) (fB 14)) (fB 15)))) (.node (nB 0)
  (.node (nB 0) (fB 16) (.node (nB 0) (.node (nB 0) (lB (nB 0) 13) (fB 14)) (fB 15))) (.node (nB 0) (.node (nB 0) (.node (nB 0) (lB (nB 0) 13) (fB 14)) (fB 15)) (.node (nB 0) (.node
  (nB 0) (lB (nB 0) 13) (fB 14)) (fB 15))))) (.node (nB 0) (.node (nB 0) (.node (nB 0) (fB 16) (.node (nB 0) (.node (nB 0) (lB (nB 0) 13) (fB 14)) (fB 15))) (.node (nB 0) (.node (nB
  0) (.node (nB 0) (lB (nB 0) 13) (fB 14)) (fB 15)) (.node (nB 0) (.node (nB 0) (lB (nB 0) 13) (fB 14)) (fB 15)))) (.node (nB 0) (.node (nB 0) (fB 16) (.node (nB 0) (.node (nB 0) (lB
  (nB 0) 13) (fB 14)) (fB 15))) (.node (nB 0) (.node (nB 0) (.node (nB 0) (lB (nB 0) 13) (fB 14)) (fB 15)) (.node (nB 0) (.node (nB 0) (lB (nB 0) 13) (fB 14)) (fB 15))))))) (.node
  (nB 0) (.node (nB 0) (.node (nB 0) (.node (nB 0) (.node (nB 0) (.node (nB 0) (.node (nB 0) (lB (nB 0) 13) (fB 14)) (fB 15)) (.node (nB 0) (.node (nB 0) (lB (nB 0) 13) (fB 14)) (fB
  15))) (.node (nB 0) (.node (nB 0) (.node (nB 0) (.node (nB 0) (lB (nB 69) 12) (fB 13)) (fB 14)) (fB 15)) (.node (nB 0) (.node (nB 0) (lB (nB 0) 13) (fB 14)) (fB 15)))) (.node (nB
  0) (.node (nB 0) (fB 16) (.node (nB 0) (.node (nB 0) (lB (nB 0) 13) (fB 14)) (fB 15))) (.node (nB 0) (.node (nB 0) (.node (nB 0) (lB (nB 0) 13) (fB 14)) (fB 15)) (.node (nB 0)
  (.node (nB 0) (lB (nB 0) 13) (fB 14)) (fB 15))))) (.node (nB 0) (.node (nB 0) (.node (nB 0) (fB 16) (.node (nB 0) (.node (nB 0) (lB (nB 0) 13) (fB 14)) (fB 15))) (.node (nB 0)
  (.node (nB 0) (.node (nB 0) (lB (nB 0) 13) (fB 14)) (fB 15)) (.node (nB 0) (.node (nB 0) (lB (nB 0) 13) (fB 14)) (fB 15)))) (.node (nB 0) (.node (nB 0) (fB 16) (.node (nB 0) (.node
  (nB 0) (lB (nB 0) 13) (fB 14)) (fB 15))) (.node (nB 0) (.node (nB 0) (.node (nB 0) (lB (nB 0) 13) (fB 14)) (fB 15)) (.node (nB 0) (.node (nB 0) (lB (nB 0) 13) (fB 14)) (fB 15))))))
  (.node (nB 255) (.node (nB 0) (.node (nB 0) (.node (nB 0) (.node (nB 0) (.node (nB 0) (lB (nB 0) 13) (fB 14)) (fB 15)) (.node (nB 0) (.node (nB 0) (lB (nB 0) 13) (fB 14)) (fB 15)))
  (.node (nB 0) (.node (nB 0) (.node (nB 0) (lB (nB 0) 13) (fB 14)) (fB 15)) (.node (nB 0) (.node (nB 0) (lB (nB 0) 13) (fB 14)) (fB 15)))) (.node (nB 0) (.node (nB 0) (fB 16) (.node
  (nB 0) (.node (nB 0) (lB (nB 0) 13) (fB 14)) (fB 15))) (.node (nB 0) (.node (nB 0) (.node (nB 0) (lB (nB 0) 13) (fB 14)) (fB 15)) (.node (nB 0) (.node (nB 0) (lB (nB 0) 13) (fB
  14)) (fB 15))))) (.node (nB 0) (.node (nB 0) (.node (nB 0) (fB 16) (.node (nB 0) (.node (nB 0) (lB (nB 0) 13) (fB 14)) (fB 15))) (.node (nB 0) (.node (nB 0) (.node (nB 0) (lB (nB
  0) 13) (fB 14)) (fB 15)) (.node (nB 0) (.node (nB 0) (lB (nB 0) 13) (fB 14)) (fB 15)))) (.node (nB 0) (.node (nB 0) (fB 16) (.node (nB 0) (.node (nB 0) (lB (nB 0) 13) (fB 14)) (fB
  15))) (.node (nB 0) (.node (nB 0) (.node (nB 0) (lB (nB 0) 13) (fB 14)) (fB 15)) (.node (nB 0) (.node (nB 0) (lB (nB 0) 13) (fB 14)) (fB 15)))))))))) true false) 14)) (fD 16)))))
  (fD 20)))) (.node (.cells 227 34 34 (.node .nil (.node (nI 0) (.node (nI 0) (.node (nU 0) (.node (nU 0) (lA (.fn (.func 102) [(.ptr 2 0)] []) 18) (fA 19)) (lA (nU 0) 19)) (.node
  (nU 0) (lA (nU 0) 19) (lA (.bool false) 19))) (.node (nI 0) (.node (nU 0) (.node (nU 0) (lA (nI 0) 18) (fA 19)) (lA (nU 0) 19)) (.node (nU 0) (lA (nU 0) 19) (lA (nU 0) 19))))
  (.node (nU 1) (.node (nU 0) (.node (nU 0) (.node (nU 0) (lA (.bool false) 18) (fA 19)) (lA (nU 0) 19)) (.node (nU 0) (lA (nU 0) 19) (lA (nU 0) 19))) (.node (nU 0) (.node (nU 0) (lA
  (nU 0) 19) (lA (nU 0) 19)) (.node (nU 0) (lA (nU 0) 19) (lA .nilif 19))))) true false) (.node .dead (.node .dead (.node .dead (.node .dead (fD 18) (.node .dead (.node .dead (.node
  .dead (fD 15) (lD (.cells 271 1 1 (lA .nilsl 23) true false) 14)) (fD 16)) (fD 17))) (.node .dead (fD 18) (.node .dead (fD 17) (.node .dead (.node .dead (fD 15) (lD (.cells 25 1 1
  (lA (nU 7) 23) true false) 14)) (fD 16))))) (.node .dead (.node .dead (.node .dead (.node .dead (fD 16) (.node .dead (fD 15) (lD (.cells 3 1 1 (lA (nI 8) 23) true false) 14))) (fD
  17)) (.node .dead (.node .dead (fD 16) (.node .dead (fD 15) (.node .dead (lD (.cells 25 1 271 (.node (nU 5929342154728227142) (.node (nU 3072) (.node (nU 18446744073709548543)
  (.node (nU 0) (.node (nU 0) (.node (nU 0) (.node (nU 0) (.node (nU 0) (lA (nU 0) 15) (fA 16)) (lA (nU 0) 16)) (.node (nU 0) (lA (nU 0) 16) (lA (nU 0) 16))) (.node (nU 0) (.node (nU
  0) (lA (nU 0) 16) (lA (nU 0) 16)) (.node (nU 0) (lA (nU 0) 16) (lA (nU 0) 16)))) (.node (nU 0) (.node (nU 0) (.node (nU 0) (.node (nU 0) (lA (nU 0) 15) (fA 16)) (lA (nU 0) 16))
  (.node (nU 0) (lA (nU 0) 16) (lA (nU 0) 16))) (.node (nU 0) (.node (nU 0) (lA (nU 0) 16) (lA (nU 0) 16)) (.node (nU 0) (lA (nU 0) 16) (lA (nU 0) 16))))) (.node (nU 0) (.node (nU 0)
  (.node (nU 0) (.node (nU 0) (.node (nU 0) (lA (nU 0) 15) (fA 16)) (lA (nU 0) 16)) (.node (nU 0) (lA (nU 0) 16) (lA (nU 0) 16))) (.node (nU 0) (.node (nU 0) (lA (nU 0) 16) (lA (nU
  0) 16)) (.node (nU 0) (lA (nU 0) 16) (lA (nU 0) 16)))) (.node (nU 0) (.node (nU 0) (.node (nU 0) (.node (nU 0) (lA (nU 0) 15) (fA 16)) (lA (nU 0) 16)) (.node (nU 0) (lA (nU 0) 16)
  (lA (nU 0) 16))) (.node (nU 0) (.node (nU 0) (lA (nU 0) 16) (lA (nU 0) 16)) (.node (nU 0) (lA (nU 0) 16) (lA (nU 0) 16)))))) (.node (nU 0) (.node (nU 0) (.node (nU 0) (.node (nU 0)
  (.node (nU 0) (.node (nU 1) (lA (nU 1) 15) (fA 16)) (lA (nU 0) 16)) (.node (nU 0) (lA (nU 0) 16) (lA (nU 0) 16))) (.node (nU 0) (.node (nU 0) (lA (nU 0) 16) (lA (nU 0) 16)) (.node
  (nU 0) (lA (nU 0) 16) (lA (nU 0) 16)))) (.node (nU 0) (.node (nU 0) (.node (nU 0) (.node (nU 55) (lA (nU 0) 15) (fA 16)) (lA (nU 0) 16)) (.node (nU 0) (lA (nU 0) 16) (lA (nU 0)
  16))) (.node (nU 0) (.node (nU 0) (lA (nU 0) 16) (lA (nU 0) 16)) (.node (nU 0) (lA (nU 0) 16) (lA (nU 0) 16))))) (.node (nU 0) (.node (nU 0) (.node (nU 0) (.node (nU 0) (.node (nU
  0) (lA (nU 0) 15) (fA 16)) (lA (nU 0) 16)) (.node (nU 0) (lA (nU 0) 16) (lA (nU 0) 16))) (.node (nU 0) (.node (nU 0) (lA (nU 0) 16) (lA (nU 0) 16)) (.node (nU 0) (lA (nU 0) 16) (lA
  (nU 0) 16)))) (.node (nU 0) (.node (nU 0) (.node (nU 0) (.node (nU 0) (lA (nU 0) 15) (fA 16)) (lA (nU 0) 16)) (.node (nU 0) (lA (nU 0) 16) (lA (nU 0) 16))) (.node (nU 0) (.node (nU
  0) (lA (nU 0) 16) (lA (nU 0) 16)) (.node (nU 0) (lA (nU 0) 16) (lA (nU 0) 16))))))) (.node (nU 2112) (.node (nU 0) (.node (nU 0) (.node (nU 0) (.node (nU 0) (.node (nU 0) (.node
  (nU 1) (lA (nU 3) 15) (fA 16)) (lA (nU 0) 16)) (.node (nU 0) (lA (nU 0) 16) (lA (nU 0) 16))) (.node (nU 0) (.node (nU 0) (lA (nU 0) 16) (lA (nU 0) 16)) (.node (nU 0) (lA (nU 0) 16)
  (lA (nU 0) 16)))) (.node (nU 0) (.node (nU 0) (.node (nU 0) (.node (nU 1) (lA (nU 5495893775785918464) 15) (fA 16)) (lA (nU 0) 16)) (.node (nU 0) (lA (nU 0) 16) (lA (nU 0) 16)))
  (.node (nU 0) (.node (nU 0) (lA (nU 0) 16) (lA (nU 0) 16)) (.node (nU 0) (lA (nU 0) 16) (lA (nU 0) 16))))) (.node (nU 0) (.node (nU 0) (.node (nU 0) (.node (nU 0) (.node (nU 0) (lA
  (nU 0) 15) (fA 16)) (lA (nU 0) 16)) (.node (nU 0) (lA (nU 0) 16) (lA (nU 0) 16))) (.node (nU 0) (.node (nU 0) (lA (nU 0) 16) (lA (nU 0) 16)) (.node (nU 0) (lA (nU 0) 16) (lA (nU 0)
  16)))) (.node (nU 0) (.node (nU 0) (.node (nU 0) (.node (nU 0) (lA (nU 2112) 15) (fA 16)) (lA (nU 0) 16)) (.node (nU 0) (lA (nU 0) 16) (lA (nU 0) 16))) (.node (nU 0) (.node (nU 0)
  (lA (nU 0) 16) (lA (nU 0) 16)) (.node (nU 0) (lA (nU 0) 16) (lA (nU 0) 16)))))) (.node (nU 0) (.node (nU 0) (.node (nU 0) (.node (nU 0) (.node (nU 0) (.node (nU 0) (lA (nU 0) 15)
  (fA 16)) (lA (nU 0) 16)) (.node (nU 0) (lA (nU 0) 16) (lA (nU 0) 16))) (.node (nU 0) (.node (nU 0) (lA (nU 0) 16) (lA (nU 0) 16)) (.node (nU 0) (lA (nU 0) 16) (lA (nU 0) 16))))
  (.node (nU 0) (.node (nU 0) (.node (nU 0) (.node (nU 0) (lA (nU 0) 15) (fA 16)) (lA (nU 0) 16)) (.node (nU 0) (lA (nU 0) 16) (lA (nU 0) 16))) (.node (nU 0) (.node (nU 0) (lA (nU 0)
  16) (lA (nU 0) 16)) (.node (nU 0) (lA (nU 0) 16) (lA (nU 0) 16))))) (.node (nU 0) (.node (nU 0) (.node (nU 0) (.node (nU 0) (.node (nU 0) (lA (nU 0) 15) (fA 16)) (lA (nU 0) 16))
  (.node (nU 0) (lA (nU 0) 16) (lA (nU 0) 16))) (.node (nU 0) (.node (nU 0) (lA (nU 0) 16) (lA (nU 0) 16)) (.node (nU 0) (lA (nU 0) 16) (lA (nU 0) 16)))) (.node (nU 0) (.node (nU 0)
  (.node (nU 0) (.node (nU 0) (lA (nU 0) 15) (fA 16)) (lA (nU 0) 16)) (.node (nU 0) (lA (nU 0) 16) (lA (nU 0) 16))) (.node (nU 0) (.node (nU 0) (lA (nU 0) 16) (lA (nU 0) 16)) (.node
  (nU 0) (lA (nU 0) 16) (lA (nU 0) 16)))))))) false false) 13) (fD 14)))) (.node .dead (.node .dead (fD 15) (lD (.cells 255 66 66 (.node (nI 1) (.node (.map 871) (.node (nU 0) (.node
  (nU 0) (.node (nU 0) (.node (nU 0) (lA (nU 0) 17) (fA 18)) (lA (nU 0) 18)) (.node (nU 0) (lA (nU 0) 18) (lA (nU 0) 18))) (.node (nU 0) (.node (nU 0) (lA (nU 0) 18) (lA (nU 0) 18))
  (.node (nU 0) (lA (nU 0) 18) (lA (nU 0) 18)))) (.node (nU 0) (.node (nU 0) (.node (nU 0) (.node (nU 0) (lA (nU 0) 17) (fA 18)) (lA (nU 0) 18)) (.node (nU 0) (lA (nU 0) 18) (lA (nU
  0) 18))) (.node (nU 0) (.node (nU 0) (lA (nU 0) 18) (lA (nU 0) 18)) (.node (nU 0) (lA (nU 0) 18) (lA (nU 0) 18))))) (.node (nU 0) (.node (nU 0) (.node (nU 0) (.node (nU 0) (.node
  (nU 0) (lA (nU 0) 17) (fA 18)) (lA (nU 0) 18)) (.node (nU 0) (lA (nU 0) 18) (lA (nU 0) 18))) (.node (nU 0) (.node (nU 0) (lA (nU 0) 18) (lA (nU 0) 18)) (.node (nU 0) (lA (nU 0) 18)
  (lA (nU 0) 18)))) (.node (nU 0) (.node (nU 0) (.node (nU 0) (lA (nU 0) 18) (lA (nU 0) 18)) (.node (nU 0) (lA (nU 0) 18) (lA (nU 0) 18))) (.node (nU 0) (.node (nU 0) (lA (nU 0) 18)
  (lA (nU 0) 18)) (.node (nU 0) (lA (nU 0) 18) (lA (nU 0) 18)))))) true false) 14)) (fD 16)))) (fD 19))) (.node .dead (.node .dead (.node .dead (.node .dead (.node .dead (fD 16)
  (.node .dead (fD 15) (lD (.map [] 0) 14))) (fD 17)) (fD 18)) (fD 19)) (.node .dead (fD 19) (.node .dead (.node .dead (.node .dead (.node .dead (fD 15) (lD (.cells 198 7 7 (.node
  (nI 3072) (.node (.sl 794 0 0 3 (.k 3)) (lA (.ptr 799 0) 21) (lA (.ptr 801 0) 21)) (.node (.ptr 798 0) (lA (.ptr 800 0) 21) (lA (.map 795) 21))) true false) 14)) (fD 16)) (fD 17))
  (.node .dead (fD 17) (.node .dead (.node .dead (fD 15) (lD (.cells 176 22 22 (.node (nU 2112) (.node (nI 0) (.node (nU 0) (.node (nU 0) (lA (nU 0) 19) (fA 20)) (.node (nU 0) (lA
  (nU 0) 19) (fA 20))) (.node (nU 2112) (.node (nU 0) (lA (nU 0) 19) (fA 20)) (.node (nU 0) (lA (nU 0) 19) (fA 20)))) (.node (nU 0) (.node (nU 0) (.node (nU 0) (lA (nU 0) 19) (fA
  20)) (.node (nU 0) (lA (nU 0) 19) (fA 20))) (.node (nU 7) (.node (nU 0) (lA (nU 0) 19) (fA 20)) (lA (nU 1088) 20)))) false false) 14)) (fD 16))))))) (.node .dead (.node .dead (lD
  (.cells 128 7 7 (.node (.sl 793 0 0 384 (.u 793 0)) (.node (.sl 791 0 0 384 (.u 791 0)) (lA (nU 0) 21) (lA (nU 0) 21)) (.node (.map 17) (lA (nU 0) 21) (lA (nU 0) 21))) true false)
  19) (.node .dead (.node .dead (.node .dead (.node .dead (fD 16) (.node .dead (fD 15) (lD (.loop .ready none 44 (.node (.sl 885 0 0 3072 (.k 3072)) (.node undefV (.node (nI 0)
  (.node undefV (lU (.sl 885 0 0 3072 (.k 3072)) 19) (fU 20)) (lU (.bool false) 20)) (.node undefV (lU (nI 3072) 20) (lU (.agg [.nilsl, .nilsl, (.map 900), (nU 0), (nU 0), (nU 0),
  (nU 0)]) 20))) (.node .nil (.node (.ptr 902 0) (.node (.sl 885 0 0 3072 (.k 3072)) (lU (.fn (.func 147) [] [(.ptr 903 0), (.ptr 904 0)]) 19) (fU 20)) (lU (.map 900) 20)) (.node
  undefV (lU (.bool true) 20) (lU (.ptr 901 0) 20)))) 53 #[17] (codeAt Tryz.f44 [1, 1, 1, 0, 1, 0, 0]) (codeAt Tryz.f44 [1, 1, 1, 0, 1, 0, 1]) 905) 14))) (fD 17)) (.node .dead (fD
  17) (.node .dead (.node .dead (fD 15) (lD (.cells 66 13 13 (.node (.ptr 873 0) (.node (nI 1) (.node (.ptr 875 0) (lA (.fn (.func 51) [(.ptr 874 0)] []) 20) (lA (.str (bs [])) 20))
  (.node (nU 0) (lA (nI 12) 20) (fA 21))) (.node (nU 1) (.node .nil (lA (.bool true) 20) (lA .nilsl 20)) (.node (.ifc 29 (.ptr 875 0)) (lA (nI 12) 20) (fA 21)))) true false) 14)) (fD
  16)))) (.node .dead (.node .dead (.node .dead (.node .dead (fD 15) (lD (.cells 205 2 6 (.node (nI 0) (.node (nU 0) (lA (nU 1) 21) (lA (nU 0) 21)) (.node (nI 3) (lA (nI 0) 21) (fA
  22))) true false) 14)) (fD 16)) (fD 17)) (fD 18)))) (.node .dead (.node .dead (.node .dead (.node .dead (.node .dead (fD 16) (.node .dead (fD 15) (lD (.cells 53 1 1 (lA (.ptr 901
  0) 23) true false) 14))) (fD 17)) (fD 18)) (.node .dead (fD 18) (.node .dead (fD 17) (.node .dead (.node .dead (fD 15) (lD (.cells 50 8 8 (.node (.sl 885 0 0 3072 (.k 3072)) (.node
  (nI 2) (.node (nI 1) (lA (.sl 899 0 0 1 (.u 899 0)) 20) (fA 21)) (lA (nI 2) 21)) (.node (nI 2) (lA (nI 1) 21) (lA (nI 1) 21))) true false) 14)) (fD 16))))) (.node .dead (fD 19)
  (.node .dead (.node .dead (.node .dead (.node .dead (fD 15) (lD (.cells 271 1 1 (lA .nilsl 23) true false) 14)) (fD 16)) (fD 17)) (fD 18))))))), 1449⟩,
  [.code (codeAt Tryz.f147
  [1, 0, 0, 1, 0, 0, 1]), .blk 1, .code (codeAt Tryz.f147 [1, 0, 0, 1, 1]), .lp (codeAt Tryz.f147 [1, 0, 0]), .blk 0]⟩
set_option maxRecDepth 1000000 in
theorem part3 : cutR [0, 1, 2, 17, 18, 791, 793, 794, 795, 796, 798, 799, 800, 801, 847, 871, 872, 873, 874, 875, 880, 881, 885, 886, 892, 899, 900, 901, 902, 903, 904, 905, 906, 1448] (iterN (stepF ctx) 19000 s2) = .inl s3 := by kernel_rfl
end Go.Proofs.YtelipbpnplcofaaGreat.delNil
