/-
  PROVED HERE: the call of EngineNil returns true, and of what was there nothing is turned.
  Conditions: none.
-/
import Derived.Test.YtakcddbpblookaaGreatEngineNilRun1
import Derived.Test.YtakcddbpblookaaGreatEngineNilRun2
import Derived.Test.YtakcddbpblookaaGreatEngineNilRun3
import Derived.Test.YtakcddbpblookaaGreatEngineNilRun4
import Derived.Test.YtakcddbpblookaaGreatEngineNilRun5
import Derived.Test.YtakcddbpblookaaGreatEngineNilRun6
import Derived.Test.YtakcddbpblookaaGreatEngineNilRun7
import Derived.Test.YtakcddbpblookaaGreatEngineNilRun8
import Derived.Test.YtakcddbpblookaaGreatEngineNilRun9
import Derived.Test.YtakcddbpblookaaGreatEngineNilRun10
import Derived.Test.YtakcddbpblookaaGreatEngineNilRun11
import Derived.Test.YtakcddbpblookaaGreatEngineNilRun12
import Derived.Test.YtakcddbpblookaaGreatEngineNilRun13
import Derived.Test.YtakcddbpblookaaGreatEngineNilRun14
import Derived.Test.YtakcddbpblookaaGreatEngineNilRun15
import Derived.Test.YtakcddbpblookaaGreatEngineNilRun16
import Derived.Test.YtakcddbpblookaaGreatEngineNilRun17
import Derived.Test.YtakcddbpblookaaGreatEngineNilRun18
import Derived.Test.YtakcddbpblookaaGreatEngineNilEnds
namespace Go.Proofs.YtakcddbpblookaaGreat.engineNil
open Go.Lev
theorem good35 : Good Tryz.prog ctx s35 := .of_run tables _ _ ends
theorem good34 : Good Tryz.prog ctx s34 := .of_part tables part35 good35
theorem good33 : Good Tryz.prog ctx s33 := .of_part tables part34 good34
theorem good32 : Good Tryz.prog ctx s32 := .of_part tables part33 good33
theorem good31 : Good Tryz.prog ctx s31 := .of_part tables part32 good32
theorem good30 : Good Tryz.prog ctx s30 := .of_part tables part31 good31
theorem good29 : Good Tryz.prog ctx s29 := .of_part tables part30 good30
theorem good28 : Good Tryz.prog ctx s28 := .of_part tables part29 good29
theorem good27 : Good Tryz.prog ctx s27 := .of_part tables part28 good28
theorem good26 : Good Tryz.prog ctx s26 := .of_part tables part27 good27
theorem good25 : Good Tryz.prog ctx s25 := .of_part tables part26 good26
theorem good24 : Good Tryz.prog ctx s24 := .of_part tables part25 good25
theorem good23 : Good Tryz.prog ctx s23 := .of_part tables part24 good24
theorem good22 : Good Tryz.prog ctx s22 := .of_part tables part23 good23
theorem good21 : Good Tryz.prog ctx s21 := .of_part tables part22 good22
theorem good20 : Good Tryz.prog ctx s20 := .of_part tables part21 good21
theorem good19 : Good Tryz.prog ctx s19 := .of_part tables part20 good20
theorem good18 : Good Tryz.prog ctx s18 := .of_part tables part19 good19
theorem good17 : Good Tryz.prog ctx s17 := .of_part tables part18 good18
theorem good16 : Good Tryz.prog ctx s16 := .of_part tables part17 good17
theorem good15 : Good Tryz.prog ctx s15 := .of_part tables part16 good16
theorem good14 : Good Tryz.prog ctx s14 := .of_part tables part15 good15
theorem good13 : Good Tryz.prog ctx s13 := .of_part tables part14 good14
theorem good12 : Good Tryz.prog ctx s12 := .of_part tables part13 good13
theorem good11 : Good Tryz.prog ctx s11 := .of_part tables part12 good12
theorem good10 : Good Tryz.prog ctx s10 := .of_part tables part11 good11
theorem good9 : Good Tryz.prog ctx s9 := .of_part tables part10 good10
theorem good8 : Good Tryz.prog ctx s8 := .of_part tables part9 good9
theorem good7 : Good Tryz.prog ctx s7 := .of_part tables part8 good8
theorem good6 : Good Tryz.prog ctx s6 := .of_part tables part7 good7
theorem good5 : Good Tryz.prog ctx s5 := .of_part tables part6 good6
theorem good4 : Good Tryz.prog ctx s4 := .of_part tables part5 good5
theorem good3 : Good Tryz.prog ctx s3 := .of_part tables part4 good4
theorem good2 : Good Tryz.prog ctx s2 := .of_part tables part3 good3
theorem good1 : Good Tryz.prog ctx s1 := .of_part tables part2 good2
theorem walk (w : World) :
    Calls Tryz.prog 3 #[] w fun e w' => e = .returned (.bool true) ∧ w.keptBut w' (fun _ => False) :=
  calls_of_parts tables starts part1 good1 w
end Go.Proofs.YtakcddbpblookaaGreat.engineNil
