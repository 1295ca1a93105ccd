/-
  PROVED HERE: the call of ConsoleNone returns true, and of what was there nothing is turned, where the variables hold what they hold.
  Conditions: none.
-/
import Derived.Test.YtaipbfbmdlkcpaaGreatDoorConsoleNoneRun1
import Derived.Test.YtaipbfbmdlkcpaaGreatDoorConsoleNoneRun2
import Derived.Test.YtaipbfbmdlkcpaaGreatDoorConsoleNoneRun3
import Derived.Test.YtaipbfbmdlkcpaaGreatDoorConsoleNoneRun4
import Derived.Test.YtaipbfbmdlkcpaaGreatDoorConsoleNoneRun5
import Derived.Test.YtaipbfbmdlkcpaaGreatDoorConsoleNoneRun6
import Derived.Test.YtaipbfbmdlkcpaaGreatDoorConsoleNoneRun7
import Derived.Test.YtaipbfbmdlkcpaaGreatDoorConsoleNoneRun8
import Derived.Test.YtaipbfbmdlkcpaaGreatDoorConsoleNoneRun9
import Derived.Test.YtaipbfbmdlkcpaaGreatDoorConsoleNoneRun10
import Derived.Test.YtaipbfbmdlkcpaaGreatDoorConsoleNoneRun11
import Derived.Test.YtaipbfbmdlkcpaaGreatDoorConsoleNoneRun12
import Derived.Test.YtaipbfbmdlkcpaaGreatDoorConsoleNoneRun13
import Derived.Test.YtaipbfbmdlkcpaaGreatDoorConsoleNoneRun14
import Derived.Test.YtaipbfbmdlkcpaaGreatDoorConsoleNoneRun15
import Derived.Test.YtaipbfbmdlkcpaaGreatDoorConsoleNoneRun16
import Derived.Test.YtaipbfbmdlkcpaaGreatDoorConsoleNoneRun17
import Derived.Test.YtaipbfbmdlkcpaaGreatDoorConsoleNoneRun18
import Derived.Test.YtaipbfbmdlkcpaaGreatDoorConsoleNoneRun19
import Derived.Test.YtaipbfbmdlkcpaaGreatDoorConsoleNoneRun20
import Derived.Test.YtaipbfbmdlkcpaaGreatDoorConsoleNoneRun21
import Derived.Test.YtaipbfbmdlkcpaaGreatDoorConsoleNoneRun22
import Derived.Test.YtaipbfbmdlkcpaaGreatDoorConsoleNoneRun23
import Derived.Test.YtaipbfbmdlkcpaaGreatDoorConsoleNoneRun24
import Derived.Test.YtaipbfbmdlkcpaaGreatDoorConsoleNoneRun25
import Derived.Test.YtaipbfbmdlkcpaaGreatDoorConsoleNoneRun26
import Derived.Test.YtaipbfbmdlkcpaaGreatDoorConsoleNoneRun27
import Derived.Test.YtaipbfbmdlkcpaaGreatDoorConsoleNoneRun28
import Derived.Test.YtaipbfbmdlkcpaaGreatDoorConsoleNoneRun29
import Derived.Test.YtaipbfbmdlkcpaaGreatDoorConsoleNoneRun30
import Derived.Test.YtaipbfbmdlkcpaaGreatDoorConsoleNoneEnds
import Derived.Test.YtaipbfbmdlkcpaaGreatDoorConsoleNoneTab
namespace Go.Proofs.YtaipbfbmdlkcpaaGreatDoor.consoleNone
open Go.Lev
theorem good89 : Go.Lev.Good Tryz.prog ctx s89 := .of_run tables _ _ ends
theorem good88 : Go.Lev.Good Tryz.prog ctx s88 := .of_join tables part89 good89
theorem good87 : Go.Lev.Good Tryz.prog ctx s87 := .of_part tables part88 good88
theorem good86 : Go.Lev.Good Tryz.prog ctx s86 := .of_part tables part87 good87
theorem good85 : Go.Lev.Good Tryz.prog ctx s85 := .of_part tables part86 good86
theorem good84 : Go.Lev.Good Tryz.prog ctx s84 := .of_part tables part85 good85
theorem good83 : Go.Lev.Good Tryz.prog ctx s83 := .of_part tables part84 good84
theorem good82 : Go.Lev.Good Tryz.prog ctx s82 := .of_join tables part83 good83
theorem good81 : Go.Lev.Good Tryz.prog ctx s81 := .of_part tables part82 good82
theorem good80 : Go.Lev.Good Tryz.prog ctx s80 := .of_part tables part81 good81
theorem good79 : Go.Lev.Good Tryz.prog ctx s79 := .of_part tables part80 good80
theorem good78 : Go.Lev.Good Tryz.prog ctx s78 := .of_part tables part79 good79
theorem good77 : Go.Lev.Good Tryz.prog ctx s77 := .of_part tables part78 good78
theorem good76 : Go.Lev.Good Tryz.prog ctx s76 := .of_part tables part77 good77
theorem good75 : Go.Lev.Good Tryz.prog ctx s75 := .of_part tables part76 good76
theorem good74 : Go.Lev.Good Tryz.prog ctx s74 := .of_part tables part75 good75
theorem good73 : Go.Lev.Good Tryz.prog ctx s73 := .of_part tables part74 good74
theorem good72 : Go.Lev.Good Tryz.prog ctx s72 := .of_part tables part73 good73
theorem good71 : Go.Lev.Good Tryz.prog ctx s71 := .of_part tables part72 good72
theorem good70 : Go.Lev.Good Tryz.prog ctx s70 := .of_part tables part71 good71
theorem good69 : Go.Lev.Good Tryz.prog ctx s69 := .of_part tables part70 good70
theorem good68 : Go.Lev.Good Tryz.prog ctx s68 := .of_part tables part69 good69
theorem good67 : Go.Lev.Good Tryz.prog ctx s67 := .of_part tables part68 good68
theorem good66 : Go.Lev.Good Tryz.prog ctx s66 := .of_part tables part67 good67
theorem good65 : Go.Lev.Good Tryz.prog ctx s65 := .of_part tables part66 good66
theorem good64 : Go.Lev.Good Tryz.prog ctx s64 := .of_part tables part65 good65
theorem good63 : Go.Lev.Good Tryz.prog ctx s63 := .of_part tables part64 good64
theorem good62 : Go.Lev.Good Tryz.prog ctx s62 := .of_part tables part63 good63
theorem good61 : Go.Lev.Good Tryz.prog ctx s61 := .of_part tables part62 good62
theorem good60 : Go.Lev.Good Tryz.prog ctx s60 := .of_part tables part61 good61
theorem good59 : Go.Lev.Good Tryz.prog ctx s59 := .of_part tables part60 good60
theorem good58 : Go.Lev.Good Tryz.prog ctx s58 := .of_part tables part59 good59
theorem good57 : Go.Lev.Good Tryz.prog ctx s57 := .of_part tables part58 good58
theorem good56 : Go.Lev.Good Tryz.prog ctx s56 := .of_part tables part57 good57
theorem good55 : Go.Lev.Good Tryz.prog ctx s55 := .of_part tables part56 good56
theorem good54 : Go.Lev.Good Tryz.prog ctx s54 := .of_part tables part55 good55
theorem good53 : Go.Lev.Good Tryz.prog ctx s53 := .of_part tables part54 good54
theorem good52 : Go.Lev.Good Tryz.prog ctx s52 := .of_part tables part53 good53
theorem good51 : Go.Lev.Good Tryz.prog ctx s51 := .of_part tables part52 good52
theorem good50 : Go.Lev.Good Tryz.prog ctx s50 := .of_part tables part51 good51
theorem good49 : Go.Lev.Good Tryz.prog ctx s49 := .of_part tables part50 good50
theorem good48 : Go.Lev.Good Tryz.prog ctx s48 := .of_part tables part49 good49
theorem good47 : Go.Lev.Good Tryz.prog ctx s47 := .of_part tables part48 good48
theorem good46 : Go.Lev.Good Tryz.prog ctx s46 := .of_part tables part47 good47
theorem good45 : Go.Lev.Good Tryz.prog ctx s45 := .of_part tables part46 good46
theorem good44 : Go.Lev.Good Tryz.prog ctx s44 := .of_part tables part45 good45
theorem good43 : Go.Lev.Good Tryz.prog ctx s43 := .of_part tables part44 good44
theorem good42 : Go.Lev.Good Tryz.prog ctx s42 := .of_part tables part43 good43
theorem good41 : Go.Lev.Good Tryz.prog ctx s41 := .of_part tables part42 good42
theorem good40 : Go.Lev.Good Tryz.prog ctx s40 := .of_part tables part41 good41
theorem good39 : Go.Lev.Good Tryz.prog ctx s39 := .of_part tables part40 good40
theorem good38 : Go.Lev.Good Tryz.prog ctx s38 := .of_part tables part39 good39
theorem good37 : Go.Lev.Good Tryz.prog ctx s37 := .of_part tables part38 good38
theorem good36 : Go.Lev.Good Tryz.prog ctx s36 := .of_part tables part37 good37
theorem good35 : Go.Lev.Good Tryz.prog ctx s35 := .of_part tables part36 good36
theorem good34 : Go.Lev.Good Tryz.prog ctx s34 := .of_part tables part35 good35
theorem good33 : Go.Lev.Good Tryz.prog ctx s33 := .of_part tables part34 good34
theorem good32 : Go.Lev.Good Tryz.prog ctx s32 := .of_part tables part33 good33
theorem good31 : Go.Lev.Good Tryz.prog ctx s31 := .of_part tables part32 good32
theorem good30 : Go.Lev.Good Tryz.prog ctx s30 := .of_part tables part31 good31
theorem good29 : Go.Lev.Good Tryz.prog ctx s29 := .of_part tables part30 good30
theorem good28 : Go.Lev.Good Tryz.prog ctx s28 := .of_part tables part29 good29
theorem good27 : Go.Lev.Good Tryz.prog ctx s27 := .of_part tables part28 good28
theorem good26 : Go.Lev.Good Tryz.prog ctx s26 := .of_part tables part27 good27
theorem good25 : Go.Lev.Good Tryz.prog ctx s25 := .of_part tables part26 good26
theorem good24 : Go.Lev.Good Tryz.prog ctx s24 := .of_part tables part25 good25
theorem good23 : Go.Lev.Good Tryz.prog ctx s23 := .of_part tables part24 good24
theorem good22 : Go.Lev.Good Tryz.prog ctx s22 := .of_part tables part23 good23
theorem good21 : Go.Lev.Good Tryz.prog ctx s21 := .of_part tables part22 good22
theorem good20 : Go.Lev.Good Tryz.prog ctx s20 := .of_part tables part21 good21
theorem good19 : Go.Lev.Good Tryz.prog ctx s19 := .of_part tables part20 good20
theorem good18 : Go.Lev.Good Tryz.prog ctx s18 := .of_part tables part19 good19
theorem good17 : Go.Lev.Good Tryz.prog ctx s17 := .of_part tables part18 good18
theorem good16 : Go.Lev.Good Tryz.prog ctx s16 := .of_part tables part17 good17
theorem good15 : Go.Lev.Good Tryz.prog ctx s15 := .of_part tables part16 good16
theorem good14 : Go.Lev.Good Tryz.prog ctx s14 := .of_part tables part15 good15
theorem good13 : Go.Lev.Good Tryz.prog ctx s13 := .of_part tables part14 good14
theorem good12 : Go.Lev.Good Tryz.prog ctx s12 := .of_part tables part13 good13
theorem good11 : Go.Lev.Good Tryz.prog ctx s11 := .of_part tables part12 good12
theorem good10 : Go.Lev.Good Tryz.prog ctx s10 := .of_part tables part11 good11
theorem good9 : Go.Lev.Good Tryz.prog ctx s9 := .of_part tables part10 good10
theorem good8 : Go.Lev.Good Tryz.prog ctx s8 := .of_part tables part9 good9
theorem good7 : Go.Lev.Good Tryz.prog ctx s7 := .of_part tables part8 good8
theorem good6 : Go.Lev.Good Tryz.prog ctx s6 := .of_part tables part7 good7
theorem good5 : Go.Lev.Good Tryz.prog ctx s5 := .of_part tables part6 good6
theorem good4 : Go.Lev.Good Tryz.prog ctx s4 := .of_part tables part5 good5
theorem good3 : Go.Lev.Good Tryz.prog ctx s3 := .of_part tables part4 good4
theorem good2 : Go.Lev.Good Tryz.prog ctx s2 := .of_part tables part3 good3
theorem good1 : Go.Lev.Good Tryz.prog ctx s1 := .of_part tables part2 good2
theorem walk (w : World) (st : Starts w h0) :
    Calls Tryz.prog 3 #[] w fun e w' => e = .returned (.bool true) ∧ w.keptBut w' (fun _ => False) :=
  calls_of_partsG tables starts part1 good1 w st
end Go.Proofs.YtaipbfbmdlkcpaaGreatDoor.consoleNone
