/-
  Tab: the types of the program as a table: how many cells, which fields, which elements.
-/
import Derived.Test.YtigbkhjcboecjaaRows
import Derived.Test.YtigbkhjcboecjaaAbsMem3
namespace Go.Proofs.Ytigbkhjcboecjaa
open Go Go.RowKit
set_option linter.unusedVariables false

theorem tyof1 : TyOf Try.prog 1 false 1 := ⟨_, Try.underlying1, rfl, by kernel_rfl⟩
theorem tyof2 : TyOf Try.prog 2 false 1 := ⟨_, Try.underlying2, rfl, by kernel_rfl⟩
theorem tyof3 : TyOf Try.prog 3 false 1 := ⟨_, Try.underlying3, rfl, by kernel_rfl⟩
theorem tyof4 : TyOf Try.prog 4 false 1 := ⟨_, Try.underlying4, rfl, by kernel_rfl⟩
theorem tyof5 : TyOf Try.prog 5 false 1 := ⟨_, Try.underlying5, rfl, by kernel_rfl⟩
theorem tyof6 : TyOf Try.prog 6 false 1 := ⟨_, Try.underlying6, rfl, by kernel_rfl⟩
theorem tyof7 : TyOf Try.prog 7 true 4 := ⟨_, Try.underlying7, rfl, by kernel_rfl⟩
theorem tyof9 : TyOf Try.prog 9 false 1 := ⟨_, Try.underlying9, rfl, by kernel_rfl⟩
theorem tyof12 : TyOf Try.prog 12 false 1 := ⟨_, Try.underlying12, rfl, by kernel_rfl⟩
theorem tyof13 : TyOf Try.prog 13 true 2 := ⟨_, Try.underlying13, rfl, by kernel_rfl⟩
theorem tyof15 : TyOf Try.prog 15 false 1 := ⟨_, Try.underlying15, rfl, by kernel_rfl⟩
theorem tyof16 : TyOf Try.prog 16 false 1 := ⟨_, Try.underlying16, rfl, by kernel_rfl⟩
theorem tyof17 : TyOf Try.prog 17 false 1 := ⟨_, Try.underlying17, rfl, by kernel_rfl⟩
theorem tyof18 : TyOf Try.prog 18 true 1 := ⟨_, Try.underlying18, rfl, by kernel_rfl⟩
theorem tyof20 : TyOf Try.prog 20 false 1 := ⟨_, Try.underlying20, rfl, by kernel_rfl⟩
theorem tyof21 : TyOf Try.prog 21 false 1 := ⟨_, Try.underlying21, rfl, by kernel_rfl⟩
theorem tyof22 : TyOf Try.prog 22 false 1 := ⟨_, Try.underlying22, rfl, by kernel_rfl⟩
theorem tyof23 : TyOf Try.prog 23 false 1 := ⟨_, Try.underlying23, rfl, by kernel_rfl⟩
theorem tyof24 : TyOf Try.prog 24 false 1 := ⟨_, Try.underlying24, rfl, by kernel_rfl⟩
theorem tyof25 : TyOf Try.prog 25 true 8 := ⟨_, Try.underlying25, rfl, by kernel_rfl⟩
theorem tyof26 : TyOf Try.prog 26 true 9 := ⟨_, Try.underlying26, rfl, by kernel_rfl⟩
theorem tyof27 : TyOf Try.prog 27 true 9 := ⟨_, Try.underlying27, rfl, by kernel_rfl⟩
theorem tyof28 : TyOf Try.prog 28 false 1 := ⟨_, Try.underlying28, rfl, by kernel_rfl⟩
theorem tyof29 : TyOf Try.prog 29 false 1 := ⟨_, Try.underlying29, rfl, by kernel_rfl⟩
theorem tyof30 : TyOf Try.prog 30 false 1 := ⟨_, Try.underlying30, rfl, by kernel_rfl⟩
theorem tyof31 : TyOf Try.prog 31 false 1 := ⟨_, Try.underlying31, rfl, by kernel_rfl⟩
theorem tyof32 : TyOf Try.prog 32 true 16 := ⟨_, Try.underlying32, rfl, by kernel_rfl⟩
theorem tyof33 : TyOf Try.prog 33 true 17 := ⟨_, Try.underlying33, rfl, by kernel_rfl⟩
theorem tyof34 : TyOf Try.prog 34 true 17 := ⟨_, Try.underlying34, rfl, by kernel_rfl⟩
theorem tyof35 : TyOf Try.prog 35 true 29 := ⟨_, Try.underlying35, rfl, by kernel_rfl⟩
theorem tyof36 : TyOf Try.prog 36 true 29 := ⟨_, Try.underlying36, rfl, by kernel_rfl⟩
theorem tyof37 : TyOf Try.prog 37 false 1 := ⟨_, Try.underlying37, rfl, by kernel_rfl⟩
theorem tyof39 : TyOf Try.prog 39 false 1 := ⟨_, Try.underlying39, rfl, by kernel_rfl⟩
theorem tyof40 : TyOf Try.prog 40 false 1 := ⟨_, Try.underlying40, rfl, by kernel_rfl⟩
theorem tyof41 : TyOf Try.prog 41 false 1 := ⟨_, Try.underlying41, rfl, by kernel_rfl⟩
theorem tyof42 : TyOf Try.prog 42 false 1 := ⟨_, Try.underlying42, rfl, by kernel_rfl⟩
theorem tyof43 : TyOf Try.prog 43 false 1 := ⟨_, Try.underlying43, rfl, by kernel_rfl⟩
theorem tyof44 : TyOf Try.prog 44 false 1 := ⟨_, Try.underlying44, rfl, by kernel_rfl⟩
theorem tyof45 : TyOf Try.prog 45 false 1 := ⟨_, Try.underlying45, rfl, by kernel_rfl⟩
theorem tyof46 : TyOf Try.prog 46 false 1 := ⟨_, Try.underlying46, rfl, by kernel_rfl⟩
theorem tyof47 : TyOf Try.prog 47 false 1 := ⟨_, Try.underlying47, rfl, by kernel_rfl⟩
theorem tyof48 : TyOf Try.prog 48 false 1 := ⟨_, Try.underlying48, rfl, by kernel_rfl⟩
theorem tyof49 : TyOf Try.prog 49 false 1 := ⟨_, Try.underlying49, rfl, by kernel_rfl⟩
theorem tyof50 : TyOf Try.prog 50 false 1 := ⟨_, Try.underlying50, rfl, by kernel_rfl⟩
theorem tyof51 : TyOf Try.prog 51 false 1 := ⟨_, Try.underlying51, rfl, by kernel_rfl⟩
theorem tyof52 : TyOf Try.prog 52 false 1 := ⟨_, Try.underlying52, rfl, by kernel_rfl⟩
theorem tyof53 : TyOf Try.prog 53 false 1 := ⟨_, Try.underlying53, rfl, by kernel_rfl⟩
theorem tyof54 : TyOf Try.prog 54 false 1 := ⟨_, Try.underlying54, rfl, by kernel_rfl⟩
theorem tyof55 : TyOf Try.prog 55 false 1 := ⟨_, Try.underlying55, rfl, by kernel_rfl⟩
theorem tyof56 : TyOf Try.prog 56 false 1 := ⟨_, Try.underlying56, rfl, by kernel_rfl⟩
theorem tyof57 : TyOf Try.prog 57 false 1 := ⟨_, Try.underlying57, rfl, by kernel_rfl⟩
theorem tyof58 : TyOf Try.prog 58 false 1 := ⟨_, Try.underlying58, rfl, by kernel_rfl⟩
theorem tyof59 : TyOf Try.prog 59 false 1 := ⟨_, Try.underlying59, rfl, by kernel_rfl⟩
theorem tyof60 : TyOf Try.prog 60 false 1 := ⟨_, Try.underlying60, rfl, by kernel_rfl⟩
theorem tyof61 : TyOf Try.prog 61 false 1 := ⟨_, Try.underlying61, rfl, by kernel_rfl⟩
theorem tyof63 : TyOf Try.prog 63 false 1 := ⟨_, Try.underlying63, rfl, by kernel_rfl⟩
theorem tyof64 : TyOf Try.prog 64 false 1 := ⟨_, Try.underlying64, rfl, by kernel_rfl⟩
theorem tyof65 : TyOf Try.prog 65 false 1 := ⟨_, Try.underlying65, rfl, by kernel_rfl⟩
theorem tyof67 : TyOf Try.prog 67 false 1 := ⟨_, Try.underlying67, rfl, by kernel_rfl⟩
theorem tyof68 : TyOf Try.prog 68 false 1 := ⟨_, Try.underlying68, rfl, by kernel_rfl⟩
theorem tyof69 : TyOf Try.prog 69 false 1 := ⟨_, Try.underlying69, rfl, by kernel_rfl⟩
theorem tyof70 : TyOf Try.prog 70 false 1 := ⟨_, Try.underlying70, rfl, by kernel_rfl⟩
theorem tyof71 : TyOf Try.prog 71 false 1 := ⟨_, Try.underlying71, rfl, by kernel_rfl⟩
theorem tyof72 : TyOf Try.prog 72 false 1 := ⟨_, Try.underlying72, rfl, by kernel_rfl⟩
theorem tyof73 : TyOf Try.prog 73 false 1 := ⟨_, Try.underlying73, rfl, by kernel_rfl⟩
theorem tyof74 : TyOf Try.prog 74 true 26 := ⟨_, Try.underlying74, rfl, by kernel_rfl⟩
theorem tyof75 : TyOf Try.prog 75 true 26 := ⟨_, Try.underlying75, rfl, by kernel_rfl⟩
theorem tyof76 : TyOf Try.prog 76 false 1 := ⟨_, Try.underlying76, rfl, by kernel_rfl⟩
theorem tyof78 : TyOf Try.prog 78 false 1 := ⟨_, Try.underlying78, rfl, by kernel_rfl⟩
theorem tyof79 : TyOf Try.prog 79 false 1 := ⟨_, Try.underlying79, rfl, by kernel_rfl⟩
theorem tyof80 : TyOf Try.prog 80 false 1 := ⟨_, Try.underlying80, rfl, by kernel_rfl⟩
theorem tyof81 : TyOf Try.prog 81 false 1 := ⟨_, Try.underlying81, rfl, by kernel_rfl⟩
theorem tyof82 : TyOf Try.prog 82 false 1 := ⟨_, Try.underlying82, rfl, by kernel_rfl⟩
theorem tyof83 : TyOf Try.prog 83 false 1 := ⟨_, Try.underlying83, rfl, by kernel_rfl⟩
theorem tyof84 : TyOf Try.prog 84 false 1 := ⟨_, Try.underlying84, rfl, by kernel_rfl⟩
theorem tyof85 : TyOf Try.prog 85 false 1 := ⟨_, Try.underlying85, rfl, by kernel_rfl⟩
theorem tyof87 : TyOf Try.prog 87 false 1 := ⟨_, Try.underlying87, rfl, by kernel_rfl⟩
theorem tyof88 : TyOf Try.prog 88 false 1 := ⟨_, Try.underlying88, rfl, by kernel_rfl⟩
theorem tyof89 : TyOf Try.prog 89 false 1 := ⟨_, Try.underlying89, rfl, by kernel_rfl⟩
theorem tyof90 : TyOf Try.prog 90 false 1 := ⟨_, Try.underlying90, rfl, by kernel_rfl⟩
theorem tyof92 : TyOf Try.prog 92 false 1 := ⟨_, Try.underlying92, rfl, by kernel_rfl⟩
theorem tyof93 : TyOf Try.prog 93 false 1 := ⟨_, Try.underlying93, rfl, by kernel_rfl⟩
theorem tyof94 : TyOf Try.prog 94 true 4 := ⟨_, Try.underlying94, rfl, by kernel_rfl⟩
theorem tyof99 : TyOf Try.prog 99 false 1 := ⟨_, Try.underlying99, rfl, by kernel_rfl⟩
theorem tyof100 : TyOf Try.prog 100 false 1 := ⟨_, Try.underlying100, rfl, by kernel_rfl⟩
theorem tyof101 : TyOf Try.prog 101 false 1 := ⟨_, Try.underlying101, rfl, by kernel_rfl⟩
theorem tyof102 : TyOf Try.prog 102 false 1 := ⟨_, Try.underlying102, rfl, by kernel_rfl⟩
theorem tyof103 : TyOf Try.prog 103 false 1 := ⟨_, Try.underlying103, rfl, by kernel_rfl⟩
theorem tyof104 : TyOf Try.prog 104 false 1 := ⟨_, Try.underlying104, rfl, by kernel_rfl⟩
theorem tyof105 : TyOf Try.prog 105 false 1 := ⟨_, Try.underlying105, rfl, by kernel_rfl⟩
theorem tyof106 : TyOf Try.prog 106 false 1 := ⟨_, Try.underlying106, rfl, by kernel_rfl⟩
theorem tyof107 : TyOf Try.prog 107 true 11 := ⟨_, Try.underlying107, rfl, by kernel_rfl⟩
theorem tyof109 : TyOf Try.prog 109 false 1 := ⟨_, Try.underlying109, rfl, by kernel_rfl⟩
theorem tiok1 : TiOk Try.prog 1 (.word) := tyof1
theorem tiok2 : TiOk Try.prog 2 (.word) := tyof2
theorem tiok3 : TiOk Try.prog 3 (.word) := tyof3
theorem tiok4 : TiOk Try.prog 4 (.word) := tyof4
theorem tiok5 : TiOk Try.prog 5 (.word) := tyof5
theorem tiok7 : TiOk Try.prog 7 (.st 4 [(0, 1, false), (1, 1, false), (2, 1, false), (3, 1, false)]) := st_ok tyof7 (F := Try.prog.fieldsOf 7) (by kernel_rfl) (l := [(0, 2), (1, 3), (2, 4), (3, 6)]) (by kernel_rfl) ⟨rfl, tyof2, rfl, tyof3, rfl, tyof4, rfl, tyof6, trivial⟩
theorem tiok9 : TiOk Try.prog 9 (.word) := tyof9
theorem tiok12 : TiOk Try.prog 12 (.word) := tyof12
theorem tiok13 : TiOk Try.prog 13 (.st 2 [(0, 1, false), (1, 1, false)]) := st_ok tyof13 (F := Try.prog.fieldsOf 13) (by kernel_rfl) (l := [(0, 9), (1, 12)]) (by kernel_rfl) ⟨rfl, tyof9, rfl, tyof12, trivial⟩
theorem tiok15 : TiOk Try.prog 15 (.word) := tyof15
theorem tiok16 : TiOk Try.prog 16 (.word) := tyof16
theorem tiok17 : TiOk Try.prog 17 (.word) := tyof17
theorem tiok18 : TiOk Try.prog 18 (.st 1 [(0, 1, false)]) := st_ok tyof18 (F := Try.prog.fieldsOf 18) (by kernel_rfl) (l := [(0, 17)]) (by kernel_rfl) ⟨rfl, tyof17, trivial⟩
theorem tiok20 : TiOk Try.prog 20 (.word) := tyof20
theorem tiok21 : TiOk Try.prog 21 (.word) := tyof21
theorem tiok22 : TiOk Try.prog 22 (.sl 3 1 8 false) := sl_ok tyof22 Try.underlying22 tyof3 (by kernel_rfl)
theorem tiok23 : TiOk Try.prog 23 (.sl 36 29 64 true) := sl_ok tyof23 Try.underlying23 tyof36 (by kernel_rfl)
theorem tiok24 : TiOk Try.prog 24 (.word) := tyof24
theorem tiok25 : TiOk Try.prog 25 (.arr 8 8 1 false 5) := ⟨tyof25, Try.underlying25, tyof5⟩
theorem tiok26 : TiOk Try.prog 26 (.st 9 [(0, 1, false), (1, 8, true)]) := st_ok tyof26 (F := Try.prog.fieldsOf 26) (by kernel_rfl) (l := [(0, 3), (1, 25)]) (by kernel_rfl) ⟨rfl, tyof3, rfl, tyof25, trivial⟩
theorem tiok27 : TiOk Try.prog 27 (.st 9 [(0, 1, false), (1, 8, true)]) := st_ok tyof27 (F := Try.prog.fieldsOf 27) (by kernel_rfl) (l := [(0, 3), (1, 25)]) (by kernel_rfl) ⟨rfl, tyof3, rfl, tyof25, trivial⟩
theorem tiok28 : TiOk Try.prog 28 (.word) := tyof28
theorem tiok29 : TiOk Try.prog 29 (.sl 27 9 16 true) := sl_ok tyof29 Try.underlying29 tyof27 (by kernel_rfl)
theorem tiok30 : TiOk Try.prog 30 (.word) := tyof30
theorem tiok31 : TiOk Try.prog 31 (.word) := tyof31
theorem tiok32 : TiOk Try.prog 32 (.arr 16 16 1 false 5) := ⟨tyof32, Try.underlying32, tyof5⟩
theorem tiok33 : TiOk Try.prog 33 (.st 17 [(0, 1, false), (1, 16, true)]) := st_ok tyof33 (F := Try.prog.fieldsOf 33) (by kernel_rfl) (l := [(0, 3), (1, 32)]) (by kernel_rfl) ⟨rfl, tyof3, rfl, tyof32, trivial⟩
theorem tiok34 : TiOk Try.prog 34 (.st 17 [(0, 1, false), (1, 16, true)]) := st_ok tyof34 (F := Try.prog.fieldsOf 34) (by kernel_rfl) (l := [(0, 3), (1, 32)]) (by kernel_rfl) ⟨rfl, tyof3, rfl, tyof32, trivial⟩
theorem tiok35 : TiOk Try.prog 35 (.st 29 [(0, 1, false), (1, 1, false), (2, 9, true), (11, 17, true), (28, 1, false)]) := st_ok tyof35 (F := Try.prog.fieldsOf 35) (by kernel_rfl) (l := [(0, 3), (1, 31), (2, 27), (11, 34), (28, 31)]) (by kernel_rfl) ⟨rfl, tyof3, rfl, tyof31, rfl, tyof27, rfl, tyof34, rfl, tyof31, trivial⟩
theorem tiok36 : TiOk Try.prog 36 (.st 29 [(0, 1, false), (1, 1, false), (2, 9, true), (11, 17, true), (28, 1, false)]) := st_ok tyof36 (F := Try.prog.fieldsOf 36) (by kernel_rfl) (l := [(0, 3), (1, 31), (2, 27), (11, 34), (28, 31)]) (by kernel_rfl) ⟨rfl, tyof3, rfl, tyof31, rfl, tyof27, rfl, tyof34, rfl, tyof31, trivial⟩
theorem tiok37 : TiOk Try.prog 37 (.word) := tyof37
theorem tiok39 : TiOk Try.prog 39 (.word) := tyof39
theorem tiok40 : TiOk Try.prog 40 (.word) := tyof40
theorem tiok41 : TiOk Try.prog 41 (.word) := tyof41
theorem tiok42 : TiOk Try.prog 42 (.word) := tyof42
theorem tiok43 : TiOk Try.prog 43 (.word) := tyof43
theorem tiok44 : TiOk Try.prog 44 (.word) := tyof44
theorem tiok45 : TiOk Try.prog 45 (.word) := tyof45
theorem tiok46 : TiOk Try.prog 46 (.word) := tyof46
theorem tiok47 : TiOk Try.prog 47 (.word) := tyof47
theorem tiok48 : TiOk Try.prog 48 (.word) := tyof48
theorem tiok49 : TiOk Try.prog 49 (.word) := tyof49
theorem tiok50 : TiOk Try.prog 50 (.word) := tyof50
theorem tiok51 : TiOk Try.prog 51 (.word) := tyof51
theorem tiok52 : TiOk Try.prog 52 (.word) := tyof52
theorem tiok53 : TiOk Try.prog 53 (.word) := tyof53
theorem tiok54 : TiOk Try.prog 54 (.sl 75 26 40 true) := sl_ok tyof54 Try.underlying54 tyof75 (by kernel_rfl)
theorem tiok55 : TiOk Try.prog 55 (.word) := tyof55
theorem tiok56 : TiOk Try.prog 56 (.word) := tyof56
theorem tiok57 : TiOk Try.prog 57 (.word) := tyof57
theorem tiok58 : TiOk Try.prog 58 (.word) := tyof58
theorem tiok59 : TiOk Try.prog 59 (.word) := tyof59
theorem tiok60 : TiOk Try.prog 60 (.word) := tyof60
theorem tiok61 : TiOk Try.prog 61 (.sl 5 1 1 false) := sl_ok tyof61 Try.underlying61 tyof5 (by kernel_rfl)
theorem tiok63 : TiOk Try.prog 63 (.word) := tyof63
theorem tiok64 : TiOk Try.prog 64 (.word) := tyof64
theorem tiok65 : TiOk Try.prog 65 (.word) := tyof65
theorem tiok67 : TiOk Try.prog 67 (.word) := tyof67
theorem tiok68 : TiOk Try.prog 68 (.word) := tyof68
theorem tiok69 : TiOk Try.prog 69 (.word) := tyof69
theorem tiok70 : TiOk Try.prog 70 (.word) := tyof70
theorem tiok71 : TiOk Try.prog 71 (.word) := tyof71
theorem tiok72 : TiOk Try.prog 72 (.word) := tyof72
theorem tiok73 : TiOk Try.prog 73 (.word) := tyof73
theorem tiok74 : TiOk Try.prog 74 (.st 26 [(0, 9, true), (9, 17, true)]) := st_ok tyof74 (F := Try.prog.fieldsOf 74) (by kernel_rfl) (l := [(0, 27), (9, 34)]) (by kernel_rfl) ⟨rfl, tyof27, rfl, tyof34, trivial⟩
theorem tiok75 : TiOk Try.prog 75 (.st 26 [(0, 9, true), (9, 17, true)]) := st_ok tyof75 (F := Try.prog.fieldsOf 75) (by kernel_rfl) (l := [(0, 27), (9, 34)]) (by kernel_rfl) ⟨rfl, tyof27, rfl, tyof34, trivial⟩
theorem tiok76 : TiOk Try.prog 76 (.word) := tyof76
theorem tiok78 : TiOk Try.prog 78 (.word) := tyof78
theorem tiok79 : TiOk Try.prog 79 (.word) := tyof79
theorem tiok80 : TiOk Try.prog 80 (.word) := tyof80
theorem tiok81 : TiOk Try.prog 81 (.word) := tyof81
theorem tiok82 : TiOk Try.prog 82 (.word) := tyof82
theorem tiok83 : TiOk Try.prog 83 (.word) := tyof83
theorem tiok84 : TiOk Try.prog 84 (.word) := tyof84
theorem tiok85 : TiOk Try.prog 85 (.word) := tyof85
theorem tiok87 : TiOk Try.prog 87 (.word) := tyof87
theorem tiok88 : TiOk Try.prog 88 (.word) := tyof88
theorem tiok89 : TiOk Try.prog 89 (.word) := tyof89
theorem tiok90 : TiOk Try.prog 90 (.word) := tyof90
theorem tiok92 : TiOk Try.prog 92 (.word) := tyof92
theorem tiok93 : TiOk Try.prog 93 (.word) := tyof93
theorem tiok94 : TiOk Try.prog 94 (.st 4 [(0, 1, false), (1, 1, false), (2, 1, false), (3, 1, false)]) := st_ok tyof94 (F := Try.prog.fieldsOf 94) (by kernel_rfl) (l := [(0, 17), (1, 17), (2, 17), (3, 9)]) (by kernel_rfl) ⟨rfl, tyof17, rfl, tyof17, rfl, tyof17, rfl, tyof9, trivial⟩
theorem tiok99 : TiOk Try.prog 99 (.word) := tyof99
theorem tiok100 : TiOk Try.prog 100 (.word) := tyof100
theorem tiok103 : TiOk Try.prog 103 (.word) := tyof103
theorem tiok104 : TiOk Try.prog 104 (.word) := tyof104
theorem tiok107 : TiOk Try.prog 107 (.st 11 [(0, 1, false), (1, 1, false), (2, 1, false), (3, 1, false), (4, 1, false), (5, 1, false), (6, 1, false), (7, 1, false), (8, 1, false), (9, 1, false), (10, 1, false)]) := st_ok tyof107 (F := Try.prog.fieldsOf 107) (by kernel_rfl) (l := [(0, 12), (1, 12), (2, 100), (3, 101), (4, 5), (5, 5), (6, 102), (7, 103), (8, 104), (9, 105), (10, 106)]) (by kernel_rfl) ⟨rfl, tyof12, rfl, tyof12, rfl, tyof100, rfl, tyof101, rfl, tyof5, rfl, tyof5, rfl, tyof102, rfl, tyof103, rfl, tyof104, rfl, tyof105, rfl, tyof106, trivial⟩
theorem tiok109 : TiOk Try.prog 109 (.word) := tyof109
def tabL : List (Nat × TI) := [(1, .word), (2, .word), (3, .word), (4, .word), (5, .word), (7, .st 4 [(0, 1, false), (1, 1, false), (2, 1, false), (3, 1, false)]), (9, .word), (12, .word), (13, .st 2 [(0, 1, false), (1, 1, false)]), (15, .word), (16, .word), (17, .word), (18, .st 1 [(0, 1, false)]), (20, .word), (21, .word), (22, .sl 3 1 8 false), (23, .sl 36 29 64 true), (24, .word), (25, .arr 8 8 1 false 5), (26, .st 9 [(0, 1, false), (1, 8, true)]), (27, .st 9 [(0, 1, false), (1, 8, true)]), (28, .word), (29, .sl 27 9 16 true), (30, .word), (31, .word), (32, .arr 16 16 1 false 5), (33, .st 17 [(0, 1, false), (1, 16, true)]), (34, .st 17 [(0, 1, false), (1, 16, true)]), (35, .st 29 [(0, 1, false), (1, 1, false), (2, 9, true), (11, 17, true), (28, 1, false)]), (36, .st 29 [(0, 1, false), (1, 1, false), (2, 9, true), (11, 17, true), (28, 1, false)]), (37, .word), (39, .word), (40, .word), (41, .word), (42, .word), (43, .word), (44, .word), (45, .word), (46, .word), (47, .word), (48, .word), (49, .word), (50, .word), (51, .word), (52, .word), (53, .word), (54, .sl 75 26 40 true), (55, .word), (56, .word), (57, .word), (58, .word), (59, .word), (60, .word), (61, .sl 5 1 1 false), (63, .word), (64, .word), (65, .word), (67, .word), (68, .word), (69, .word), (70, .word), (71, .word), (72, .word), (73, .word), (74, .st 26 [(0, 9, true), (9, 17, true)]), (75, .st 26 [(0, 9, true), (9, 17, true)]), (76, .word), (78, .word), (79, .word), (80, .word), (81, .word), (82, .word), (83, .word), (84, .word), (85, .word), (87, .word), (88, .word), (89, .word), (90, .word), (92, .word), (93, .word), (94, .st 4 [(0, 1, false), (1, 1, false), (2, 1, false), (3, 1, false)]), (99, .word), (100, .word), (103, .word), (104, .word), (107, .st 11 [(0, 1, false), (1, 1, false), (2, 1, false), (3, 1, false), (4, 1, false), (5, 1, false), (6, 1, false), (7, 1, false), (8, 1, false), (9, 1, false), (10, 1, false)]), (109, .word)]
theorem tabL_ok : ∀ t i, look t tabL = some i → TiOk Try.prog t i := look_all (⟨tiok1, ⟨tiok2, ⟨tiok3, ⟨tiok4, ⟨tiok5, ⟨tiok7, ⟨tiok9, ⟨tiok12, ⟨tiok13, ⟨tiok15, ⟨tiok16, ⟨tiok17, ⟨tiok18, ⟨tiok20, ⟨tiok21, ⟨tiok22, ⟨tiok23, ⟨tiok24, ⟨tiok25, ⟨tiok26, ⟨tiok27, ⟨tiok28, ⟨tiok29, ⟨tiok30, ⟨tiok31, ⟨tiok32, ⟨tiok33, ⟨tiok34, ⟨tiok35, ⟨tiok36, ⟨tiok37, ⟨tiok39, ⟨tiok40, ⟨tiok41, ⟨tiok42, ⟨tiok43, ⟨tiok44, ⟨tiok45, ⟨tiok46, ⟨tiok47, ⟨tiok48, ⟨tiok49, ⟨tiok50, ⟨tiok51, ⟨tiok52, ⟨tiok53, ⟨tiok54, ⟨tiok55, ⟨tiok56, ⟨tiok57, ⟨tiok58, ⟨tiok59, ⟨tiok60, ⟨tiok61, ⟨tiok63, ⟨tiok64, ⟨tiok65, ⟨tiok67, ⟨tiok68, ⟨tiok69, ⟨tiok70, ⟨tiok71, ⟨tiok72, ⟨tiok73, ⟨tiok74, ⟨tiok75, ⟨tiok76, ⟨tiok78, ⟨tiok79, ⟨tiok80, ⟨tiok81, ⟨tiok82, ⟨tiok83, ⟨tiok84, ⟨tiok85, ⟨tiok87, ⟨tiok88, ⟨tiok89, ⟨tiok90, ⟨tiok92, ⟨tiok93, ⟨tiok94, ⟨tiok99, ⟨tiok100, ⟨tiok103, ⟨tiok104, ⟨tiok107, ⟨tiok109, trivial⟩⟩⟩⟩⟩⟩⟩⟩⟩⟩⟩⟩⟩⟩⟩⟩⟩⟩⟩⟩⟩⟩⟩⟩⟩⟩⟩⟩⟩⟩⟩⟩⟩⟩⟩⟩⟩⟩⟩⟩⟩⟩⟩⟩⟩⟩⟩⟩⟩⟩⟩⟩⟩⟩⟩⟩⟩⟩⟩⟩⟩⟩⟩⟩⟩⟩⟩⟩⟩⟩⟩⟩⟩⟩⟩⟩⟩⟩⟩⟩⟩⟩⟩⟩⟩⟩⟩⟩)
def tabT : Tab Try.prog := ⟨fun t => look t tabL, tabL_ok⟩
end Go.Proofs.Ytigbkhjcboecjaa
