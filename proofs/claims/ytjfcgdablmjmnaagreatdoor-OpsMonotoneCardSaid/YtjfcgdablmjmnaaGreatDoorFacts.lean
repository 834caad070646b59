/-
  What the evaluator asks of the program's types.
-/
import Derived.Test.YtjfcgdablmjmnaaGreatDoorAbsT
import Derived.Test.YtjfcgdablmjmnaaGreatDoorProg
import Derived.KernelRfl
namespace Go.Proofs.YtjfcgdablmjmnaaGreatDoor
namespace Abs
@[simp] theorem ag2 : isAgg? Tryz.prog 2 = some false := by kernel_rfl
@[simp] theorem sz2 : size? Tryz.prog 2 = some 1 := by kernel_rfl
@[simp] theorem el2 : elem? Tryz.prog 2 = none := by kernel_rfl
@[simp] theorem ar2 : array? Tryz.prog 2 = none := by kernel_rfl
@[simp] theorem st2 : isStr Tryz.prog 2 = false := by kernel_rfl
@[simp] theorem ifc2 : isIface Tryz.prog 2 = some false := by kernel_rfl
@[simp] theorem zr2 : zero? Tryz.prog 2 = some (.cell (.pv (.sc (.int .i64 0)))) := by kernel_rfl
@[simp] theorem un2 : Program.underlying Tryz.prog 2 = some (.int .i64) := by kernel_rfl
@[simp] theorem ag3 : isAgg? Tryz.prog 3 = some false := by kernel_rfl
@[simp] theorem sz3 : size? Tryz.prog 3 = some 1 := by kernel_rfl
@[simp] theorem el3 : elem? Tryz.prog 3 = none := by kernel_rfl
@[simp] theorem ar3 : array? Tryz.prog 3 = none := by kernel_rfl
@[simp] theorem st3 : isStr Tryz.prog 3 = false := by kernel_rfl
@[simp] theorem ifc3 : isIface Tryz.prog 3 = some false := by kernel_rfl
@[simp] theorem zr3 : zero? Tryz.prog 3 = some (.cell (.pv (.sc (.int .i64 0)))) := by kernel_rfl
@[simp] theorem un3 : Program.underlying Tryz.prog 3 = some (.int .i64) := by kernel_rfl
@[simp] theorem ag4 : isAgg? Tryz.prog 4 = some false := by kernel_rfl
@[simp] theorem sz4 : size? Tryz.prog 4 = some 1 := by kernel_rfl
@[simp] theorem el4 : elem? Tryz.prog 4 = none := by kernel_rfl
@[simp] theorem ar4 : array? Tryz.prog 4 = none := by kernel_rfl
@[simp] theorem st4 : isStr Tryz.prog 4 = false := by kernel_rfl
@[simp] theorem ifc4 : isIface Tryz.prog 4 = some false := by kernel_rfl
@[simp] theorem zr4 : zero? Tryz.prog 4 = some (.cell (.pv (.sc (.bool false)))) := by kernel_rfl
@[simp] theorem un4 : Program.underlying Tryz.prog 4 = some .bool := by kernel_rfl
@[simp] theorem ag5 : isAgg? Tryz.prog 5 = some false := by kernel_rfl
@[simp] theorem sz5 : size? Tryz.prog 5 = some 1 := by kernel_rfl
@[simp] theorem el5 : elem? Tryz.prog 5 = none := by kernel_rfl
@[simp] theorem ar5 : array? Tryz.prog 5 = none := by kernel_rfl
@[simp] theorem st5 : isStr Tryz.prog 5 = false := by kernel_rfl
@[simp] theorem ifc5 : isIface Tryz.prog 5 = some false := by kernel_rfl
@[simp] theorem zr5 : zero? Tryz.prog 5 = some (.cell (.pv (.sc (.int .u8 0)))) := by kernel_rfl
@[simp] theorem un5 : Program.underlying Tryz.prog 5 = some (.int .u8) := by kernel_rfl
@[simp] theorem ag9 : isAgg? Tryz.prog 9 = some false := by kernel_rfl
@[simp] theorem sz9 : size? Tryz.prog 9 = some 1 := by kernel_rfl
@[simp] theorem el9 : elem? Tryz.prog 9 = none := by kernel_rfl
@[simp] theorem ar9 : array? Tryz.prog 9 = none := by kernel_rfl
@[simp] theorem st9 : isStr Tryz.prog 9 = true := by kernel_rfl
@[simp] theorem ifc9 : isIface Tryz.prog 9 = some false := by kernel_rfl
@[simp] theorem zr9 : zero? Tryz.prog 9 = some (.cell (.pv (.sc (.string ⟨#[]⟩)))) := by kernel_rfl
@[simp] theorem un9 : Program.underlying Tryz.prog 9 = some .string := by kernel_rfl
@[simp] theorem ag12 : isAgg? Tryz.prog 12 = some false := by kernel_rfl
@[simp] theorem sz12 : size? Tryz.prog 12 = some 1 := by kernel_rfl
@[simp] theorem el12 : elem? Tryz.prog 12 = none := by kernel_rfl
@[simp] theorem ar12 : array? Tryz.prog 12 = none := by kernel_rfl
@[simp] theorem st12 : isStr Tryz.prog 12 = false := by kernel_rfl
@[simp] theorem ifc12 : isIface Tryz.prog 12 = some false := by kernel_rfl
@[simp] theorem zr12 : zero? Tryz.prog 12 = some (.cell (.pv (.sc (.int .u64 0)))) := by kernel_rfl
@[simp] theorem un12 : Program.underlying Tryz.prog 12 = some (.int .u64) := by kernel_rfl
@[simp] theorem ag21 : isAgg? Tryz.prog 21 = some false := by kernel_rfl
@[simp] theorem sz21 : size? Tryz.prog 21 = some 1 := by kernel_rfl
@[simp] theorem el21 : elem? Tryz.prog 21 = none := by kernel_rfl
@[simp] theorem ar21 : array? Tryz.prog 21 = none := by kernel_rfl
@[simp] theorem st21 : isStr Tryz.prog 21 = false := by kernel_rfl
@[simp] theorem ifc21 : isIface Tryz.prog 21 = some false := by kernel_rfl
@[simp] theorem zr21 : zero? Tryz.prog 21 = some (.cell (.pv (.sc (.int .i32 0)))) := by kernel_rfl
@[simp] theorem un21 : Program.underlying Tryz.prog 21 = some (.int .i32) := by kernel_rfl
@[simp] theorem ag22 : isAgg? Tryz.prog 22 = some false := by kernel_rfl
@[simp] theorem sz22 : size? Tryz.prog 22 = some 1 := by kernel_rfl
@[simp] theorem el22 : elem? Tryz.prog 22 = none := by kernel_rfl
@[simp] theorem ar22 : array? Tryz.prog 22 = none := by kernel_rfl
@[simp] theorem st22 : isStr Tryz.prog 22 = false := by kernel_rfl
@[simp] theorem ifc22 : isIface Tryz.prog 22 = some false := by kernel_rfl
@[simp] theorem zr22 : zero? Tryz.prog 22 = some (.cell (.pv (.sc (.int .i64 0)))) := by kernel_rfl
@[simp] theorem un22 : Program.underlying Tryz.prog 22 = some (.int .i64) := by kernel_rfl
@[simp] theorem ag23 : isAgg? Tryz.prog 23 = some false := by kernel_rfl
@[simp] theorem sz23 : size? Tryz.prog 23 = some 1 := by kernel_rfl
@[simp] theorem el23 : elem? Tryz.prog 23 = none := by kernel_rfl
@[simp] theorem ar23 : array? Tryz.prog 23 = none := by kernel_rfl
@[simp] theorem st23 : isStr Tryz.prog 23 = false := by kernel_rfl
@[simp] theorem ifc23 : isIface Tryz.prog 23 = some false := by kernel_rfl
@[simp] theorem zr23 : zero? Tryz.prog 23 = some (.cell (.pv (.sc (.int .i64 0)))) := by kernel_rfl
@[simp] theorem un23 : Program.underlying Tryz.prog 23 = some (.int .i64) := by kernel_rfl
@[simp] theorem ag24 : isAgg? Tryz.prog 24 = some false := by kernel_rfl
@[simp] theorem sz24 : size? Tryz.prog 24 = some 1 := by kernel_rfl
@[simp] theorem el24 : elem? Tryz.prog 24 = some (27, 5, 80) := by kernel_rfl
@[simp] theorem ar24 : array? Tryz.prog 24 = none := by kernel_rfl
@[simp] theorem st24 : isStr Tryz.prog 24 = false := by kernel_rfl
@[simp] theorem ifc24 : isIface Tryz.prog 24 = some false := by kernel_rfl
@[simp] theorem zr24 : zero? Tryz.prog 24 = some (.cell (.pv (.sc (.slice none 0 0)))) := by kernel_rfl
@[simp] theorem un24 : Program.underlying Tryz.prog 24 = some (.slice 27) := by kernel_rfl
@[simp] theorem ag25 : isAgg? Tryz.prog 25 = some false := by kernel_rfl
@[simp] theorem sz25 : size? Tryz.prog 25 = some 1 := by kernel_rfl
@[simp] theorem el25 : elem? Tryz.prog 25 = some (9, 1, 16) := by kernel_rfl
@[simp] theorem ar25 : array? Tryz.prog 25 = none := by kernel_rfl
@[simp] theorem st25 : isStr Tryz.prog 25 = false := by kernel_rfl
@[simp] theorem ifc25 : isIface Tryz.prog 25 = some false := by kernel_rfl
@[simp] theorem zr25 : zero? Tryz.prog 25 = some (.cell (.pv (.sc (.slice none 0 0)))) := by kernel_rfl
@[simp] theorem un25 : Program.underlying Tryz.prog 25 = some (.slice 9) := by kernel_rfl
@[simp] theorem ag27 : isAgg? Tryz.prog 27 = some true := by kernel_rfl
@[simp] theorem sz27 : size? Tryz.prog 27 = some 5 := by kernel_rfl
@[simp] theorem el27 : elem? Tryz.prog 27 = none := by kernel_rfl
@[simp] theorem ar27 : array? Tryz.prog 27 = none := by kernel_rfl
@[simp] theorem st27 : isStr Tryz.prog 27 = false := by kernel_rfl
@[simp] theorem ifc27 : isIface Tryz.prog 27 = some false := by kernel_rfl
@[simp] theorem zr27 : zero? Tryz.prog 27 = some (.agg [.pv (.sc (.int .i64 0)), .pv (.sc (.int .i64 0)), .pv (.sc (.string ⟨#[]⟩)), .pv (.sc (.slice none 0 0)), .pv (.sc (.slice none 0 0))]) := by kernel_rfl
@[simp] theorem pl27 : place? Tryz.prog 27 = some (fun i => ([(0, 1), (1, 1), (2, 1), (3, 1), (4, 1)] : List (Nat × Nat))[i]?) := by kernel_rfl
@[simp] theorem ag29 : isAgg? Tryz.prog 29 = some true := by kernel_rfl
@[simp] theorem sz29 : size? Tryz.prog 29 = some 18 := by kernel_rfl
@[simp] theorem el29 : elem? Tryz.prog 29 = none := by kernel_rfl
@[simp] theorem ar29 : array? Tryz.prog 29 = none := by kernel_rfl
@[simp] theorem st29 : isStr Tryz.prog 29 = false := by kernel_rfl
@[simp] theorem ifc29 : isIface Tryz.prog 29 = some false := by kernel_rfl
@[simp] theorem zr29 : zero? Tryz.prog 29 = some (.agg [.pv (.sc (.int .i64 0)), .pv (.sc (.int .i64 0)), .pv (.sc (.string ⟨#[]⟩)), .pv (.sc (.int .i64 0)), .pv (.sc (.int .i64 0)), .pv (.sc (.string ⟨#[]⟩)), .pv (.sc (.slice none 0 0)), .pv (.sc (.slice none 0 0)), .pv (.sc (.int .i64 0)), .pv (.sc (.int .i64 0)), .pv (.sc (.string ⟨#[]⟩)), .pv (.sc (.slice none 0 0)), .pv (.sc (.slice none 0 0)), .pv (.sc (.int .i64 0)), .pv (.sc (.int .i64 0)), .pv (.sc (.string ⟨#[]⟩)), .pv (.sc (.slice none 0 0)), .pv (.sc (.slice none 0 0))]) := by kernel_rfl
@[simp] theorem pl29 : place? Tryz.prog 29 = some (fun i => ([(0, 1), (1, 1), (2, 1), (3, 5), (8, 5), (13, 5)] : List (Nat × Nat))[i]?) := by kernel_rfl
@[simp] theorem ag32 : isAgg? Tryz.prog 32 = some false := by kernel_rfl
@[simp] theorem sz32 : size? Tryz.prog 32 = some 1 := by kernel_rfl
@[simp] theorem el32 : elem? Tryz.prog 32 = none := by kernel_rfl
@[simp] theorem ar32 : array? Tryz.prog 32 = none := by kernel_rfl
@[simp] theorem st32 : isStr Tryz.prog 32 = false := by kernel_rfl
@[simp] theorem ifc32 : isIface Tryz.prog 32 = some false := by kernel_rfl
@[simp] theorem zr32 : zero? Tryz.prog 32 = some (.cell (.pv (.sc (.int .i64 0)))) := by kernel_rfl
@[simp] theorem un32 : Program.underlying Tryz.prog 32 = some (.int .i64) := by kernel_rfl
@[simp] theorem ag35 : isAgg? Tryz.prog 35 = some false := by kernel_rfl
@[simp] theorem sz35 : size? Tryz.prog 35 = some 1 := by kernel_rfl
@[simp] theorem el35 : elem? Tryz.prog 35 = none := by kernel_rfl
@[simp] theorem ar35 : array? Tryz.prog 35 = none := by kernel_rfl
@[simp] theorem st35 : isStr Tryz.prog 35 = false := by kernel_rfl
@[simp] theorem ifc35 : isIface Tryz.prog 35 = some false := by kernel_rfl
@[simp] theorem zr35 : zero? Tryz.prog 35 = some (.cell (.pv (.sc .nilFunc))) := by kernel_rfl
@[simp] theorem ag37 : isAgg? Tryz.prog 37 = some true := by kernel_rfl
@[simp] theorem sz37 : size? Tryz.prog 37 = some 15 := by kernel_rfl
@[simp] theorem el37 : elem? Tryz.prog 37 = none := by kernel_rfl
@[simp] theorem ar37 : array? Tryz.prog 37 = some (3, 5, true) := by kernel_rfl
@[simp] theorem st37 : isStr Tryz.prog 37 = false := by kernel_rfl
@[simp] theorem ifc37 : isIface Tryz.prog 37 = some false := by kernel_rfl
@[simp] theorem zr37 : zero? Tryz.prog 37 = some (.agg [.pv (.sc (.int .i64 0)), .pv (.sc (.int .i64 0)), .pv (.sc (.string ⟨#[]⟩)), .pv (.sc (.slice none 0 0)), .pv (.sc (.slice none 0 0)), .pv (.sc (.int .i64 0)), .pv (.sc (.int .i64 0)), .pv (.sc (.string ⟨#[]⟩)), .pv (.sc (.slice none 0 0)), .pv (.sc (.slice none 0 0)), .pv (.sc (.int .i64 0)), .pv (.sc (.int .i64 0)), .pv (.sc (.string ⟨#[]⟩)), .pv (.sc (.slice none 0 0)), .pv (.sc (.slice none 0 0))]) := by kernel_rfl
@[simp] theorem pl37 : place? Tryz.prog 37 = some (fun i => some (i * 5, 5)) := by kernel_rfl
@[simp] theorem ag41 : isAgg? Tryz.prog 41 = some false := by kernel_rfl
@[simp] theorem sz41 : size? Tryz.prog 41 = some 1 := by kernel_rfl
@[simp] theorem el41 : elem? Tryz.prog 41 = none := by kernel_rfl
@[simp] theorem ar41 : array? Tryz.prog 41 = none := by kernel_rfl
@[simp] theorem st41 : isStr Tryz.prog 41 = false := by kernel_rfl
@[simp] theorem ifc41 : isIface Tryz.prog 41 = some false := by kernel_rfl
@[simp] theorem zr41 : zero? Tryz.prog 41 = some (.cell (.pv (.sc .nilFunc))) := by kernel_rfl
@[simp] theorem ag46 : isAgg? Tryz.prog 46 = some false := by kernel_rfl
@[simp] theorem sz46 : size? Tryz.prog 46 = some 1 := by kernel_rfl
@[simp] theorem el46 : elem? Tryz.prog 46 = some (22, 1, 8) := by kernel_rfl
@[simp] theorem ar46 : array? Tryz.prog 46 = none := by kernel_rfl
@[simp] theorem st46 : isStr Tryz.prog 46 = false := by kernel_rfl
@[simp] theorem ifc46 : isIface Tryz.prog 46 = some false := by kernel_rfl
@[simp] theorem zr46 : zero? Tryz.prog 46 = some (.cell (.pv (.sc (.slice none 0 0)))) := by kernel_rfl
@[simp] theorem un46 : Program.underlying Tryz.prog 46 = some (.slice 22) := by kernel_rfl
@[simp] theorem ag78 : isAgg? Tryz.prog 78 = some false := by kernel_rfl
@[simp] theorem sz78 : size? Tryz.prog 78 = some 1 := by kernel_rfl
@[simp] theorem el78 : elem? Tryz.prog 78 = none := by kernel_rfl
@[simp] theorem ar78 : array? Tryz.prog 78 = none := by kernel_rfl
@[simp] theorem st78 : isStr Tryz.prog 78 = false := by kernel_rfl
@[simp] theorem ifc78 : isIface Tryz.prog 78 = some false := by kernel_rfl
@[simp] theorem zr78 : zero? Tryz.prog 78 = some (.cell (.pv (.sc (.int .i64 0)))) := by kernel_rfl
@[simp] theorem un78 : Program.underlying Tryz.prog 78 = some (.int .i64) := by kernel_rfl
@[simp] theorem ag81 : isAgg? Tryz.prog 81 = some false := by kernel_rfl
@[simp] theorem sz81 : size? Tryz.prog 81 = some 1 := by kernel_rfl
@[simp] theorem el81 : elem? Tryz.prog 81 = some (83, 3, 56) := by kernel_rfl
@[simp] theorem ar81 : array? Tryz.prog 81 = none := by kernel_rfl
@[simp] theorem st81 : isStr Tryz.prog 81 = false := by kernel_rfl
@[simp] theorem ifc81 : isIface Tryz.prog 81 = some false := by kernel_rfl
@[simp] theorem zr81 : zero? Tryz.prog 81 = some (.cell (.pv (.sc (.slice none 0 0)))) := by kernel_rfl
@[simp] theorem un81 : Program.underlying Tryz.prog 81 = some (.slice 83) := by kernel_rfl
@[simp] theorem ag83 : isAgg? Tryz.prog 83 = some true := by kernel_rfl
@[simp] theorem sz83 : size? Tryz.prog 83 = some 3 := by kernel_rfl
@[simp] theorem el83 : elem? Tryz.prog 83 = none := by kernel_rfl
@[simp] theorem ar83 : array? Tryz.prog 83 = none := by kernel_rfl
@[simp] theorem st83 : isStr Tryz.prog 83 = false := by kernel_rfl
@[simp] theorem ifc83 : isIface Tryz.prog 83 = some false := by kernel_rfl
@[simp] theorem zr83 : zero? Tryz.prog 83 = some (.agg [.pv (.sc (.int .i64 0)), .pv (.sc (.slice none 0 0)), .pv (.sc (.slice none 0 0))]) := by kernel_rfl
@[simp] theorem pl83 : place? Tryz.prog 83 = some (fun i => ([(0, 1), (1, 1), (2, 1)] : List (Nat × Nat))[i]?) := by kernel_rfl
@[simp] theorem ag94 : isAgg? Tryz.prog 94 = some false := by kernel_rfl
@[simp] theorem sz94 : size? Tryz.prog 94 = some 1 := by kernel_rfl
@[simp] theorem el94 : elem? Tryz.prog 94 = none := by kernel_rfl
@[simp] theorem ar94 : array? Tryz.prog 94 = none := by kernel_rfl
@[simp] theorem st94 : isStr Tryz.prog 94 = false := by kernel_rfl
@[simp] theorem ifc94 : isIface Tryz.prog 94 = some false := by kernel_rfl
@[simp] theorem zr94 : zero? Tryz.prog 94 = some (.cell (.pv (.sc (.int .u64 0)))) := by kernel_rfl
@[simp] theorem un94 : Program.underlying Tryz.prog 94 = some (.int .u64) := by kernel_rfl
@[simp] theorem ag98 : isAgg? Tryz.prog 98 = some false := by kernel_rfl
@[simp] theorem sz98 : size? Tryz.prog 98 = some 1 := by kernel_rfl
@[simp] theorem el98 : elem? Tryz.prog 98 = none := by kernel_rfl
@[simp] theorem ar98 : array? Tryz.prog 98 = none := by kernel_rfl
@[simp] theorem st98 : isStr Tryz.prog 98 = false := by kernel_rfl
@[simp] theorem ifc98 : isIface Tryz.prog 98 = some false := by kernel_rfl
@[simp] theorem zr98 : zero? Tryz.prog 98 = some (.cell (.pv (.sc .nilFunc))) := by kernel_rfl
@[simp] theorem ag108 : isAgg? Tryz.prog 108 = some false := by kernel_rfl
@[simp] theorem sz108 : size? Tryz.prog 108 = some 1 := by kernel_rfl
@[simp] theorem el108 : elem? Tryz.prog 108 = none := by kernel_rfl
@[simp] theorem ar108 : array? Tryz.prog 108 = none := by kernel_rfl
@[simp] theorem st108 : isStr Tryz.prog 108 = false := by kernel_rfl
@[simp] theorem ifc108 : isIface Tryz.prog 108 = some true := by kernel_rfl
@[simp] theorem zr108 : zero? Tryz.prog 108 = some (.cell (.pv (.sc .nilIface))) := by kernel_rfl
@[simp] theorem ag113 : isAgg? Tryz.prog 113 = some false := by kernel_rfl
@[simp] theorem sz113 : size? Tryz.prog 113 = some 1 := by kernel_rfl
@[simp] theorem el113 : elem? Tryz.prog 113 = some (5, 1, 1) := by kernel_rfl
@[simp] theorem ar113 : array? Tryz.prog 113 = none := by kernel_rfl
@[simp] theorem st113 : isStr Tryz.prog 113 = false := by kernel_rfl
@[simp] theorem ifc113 : isIface Tryz.prog 113 = some false := by kernel_rfl
@[simp] theorem zr113 : zero? Tryz.prog 113 = some (.cell (.pv (.sc (.slice none 0 0)))) := by kernel_rfl
@[simp] theorem un113 : Program.underlying Tryz.prog 113 = some (.slice 5) := by kernel_rfl
@[simp] theorem ag114 : isAgg? Tryz.prog 114 = some false := by kernel_rfl
@[simp] theorem sz114 : size? Tryz.prog 114 = some 1 := by kernel_rfl
@[simp] theorem el114 : elem? Tryz.prog 114 = none := by kernel_rfl
@[simp] theorem ar114 : array? Tryz.prog 114 = none := by kernel_rfl
@[simp] theorem st114 : isStr Tryz.prog 114 = false := by kernel_rfl
@[simp] theorem ifc114 : isIface Tryz.prog 114 = some false := by kernel_rfl
@[simp] theorem zr114 : zero? Tryz.prog 114 = some (.cell (.pv (.sc (.int .i64 0)))) := by kernel_rfl
@[simp] theorem un114 : Program.underlying Tryz.prog 114 = some (.int .i64) := by kernel_rfl
@[simp] theorem ag115 : isAgg? Tryz.prog 115 = some false := by kernel_rfl
@[simp] theorem sz115 : size? Tryz.prog 115 = some 1 := by kernel_rfl
@[simp] theorem el115 : elem? Tryz.prog 115 = none := by kernel_rfl
@[simp] theorem ar115 : array? Tryz.prog 115 = none := by kernel_rfl
@[simp] theorem st115 : isStr Tryz.prog 115 = false := by kernel_rfl
@[simp] theorem ifc115 : isIface Tryz.prog 115 = some false := by kernel_rfl
@[simp] theorem zr115 : zero? Tryz.prog 115 = some (.cell (.pv (.sc (.int .u64 0)))) := by kernel_rfl
@[simp] theorem un115 : Program.underlying Tryz.prog 115 = some (.int .u64) := by kernel_rfl
@[simp] theorem ag118 : isAgg? Tryz.prog 118 = some false := by kernel_rfl
@[simp] theorem sz118 : size? Tryz.prog 118 = some 1 := by kernel_rfl
@[simp] theorem el118 : elem? Tryz.prog 118 = none := by kernel_rfl
@[simp] theorem ar118 : array? Tryz.prog 118 = none := by kernel_rfl
@[simp] theorem st118 : isStr Tryz.prog 118 = false := by kernel_rfl
@[simp] theorem ifc118 : isIface Tryz.prog 118 = some false := by kernel_rfl
@[simp] theorem zr118 : zero? Tryz.prog 118 = some (.cell (.pv (.sc (.pointer none)))) := by kernel_rfl
@[simp] theorem ag123 : isAgg? Tryz.prog 123 = some true := by kernel_rfl
@[simp] theorem sz123 : size? Tryz.prog 123 = some 256 := by kernel_rfl
@[simp] theorem el123 : elem? Tryz.prog 123 = none := by kernel_rfl
@[simp] theorem ar123 : array? Tryz.prog 123 = some (256, 1, false) := by kernel_rfl
@[simp] theorem st123 : isStr Tryz.prog 123 = false := by kernel_rfl
@[simp] theorem ifc123 : isIface Tryz.prog 123 = some false := by kernel_rfl
@[simp] theorem pl123 : place? Tryz.prog 123 = some (fun i => some (i * 1, 1)) := by kernel_rfl
@[simp] theorem ag125 : isAgg? Tryz.prog 125 = some true := by kernel_rfl
@[simp] theorem sz125 : size? Tryz.prog 125 = some 2 := by kernel_rfl
@[simp] theorem el125 : elem? Tryz.prog 125 = none := by kernel_rfl
@[simp] theorem ar125 : array? Tryz.prog 125 = none := by kernel_rfl
@[simp] theorem st125 : isStr Tryz.prog 125 = false := by kernel_rfl
@[simp] theorem ifc125 : isIface Tryz.prog 125 = some false := by kernel_rfl
@[simp] theorem zr125 : zero? Tryz.prog 125 = some (.agg [.pv (.sc (.int .u8 0)), .pv (.sc (.int .u8 0))]) := by kernel_rfl
@[simp] theorem pl125 : place? Tryz.prog 125 = some (fun i => ([(0, 1), (1, 1)] : List (Nat × Nat))[i]?) := by kernel_rfl
@[simp] theorem ag126 : isAgg? Tryz.prog 126 = some true := by kernel_rfl
@[simp] theorem sz126 : size? Tryz.prog 126 = some 32 := by kernel_rfl
@[simp] theorem el126 : elem? Tryz.prog 126 = none := by kernel_rfl
@[simp] theorem ar126 : array? Tryz.prog 126 = some (16, 2, true) := by kernel_rfl
@[simp] theorem st126 : isStr Tryz.prog 126 = false := by kernel_rfl
@[simp] theorem ifc126 : isIface Tryz.prog 126 = some false := by kernel_rfl
@[simp] theorem zr126 : zero? Tryz.prog 126 = some (.agg [.pv (.sc (.int .u8 0)), .pv (.sc (.int .u8 0)), .pv (.sc (.int .u8 0)), .pv (.sc (.int .u8 0)), .pv (.sc (.int .u8 0)), .pv (.sc (.int .u8 0)), .pv (.sc (.int .u8 0)), .pv (.sc (.int .u8 0)), .pv (.sc (.int .u8 0)), .pv (.sc (.int .u8 0)), .pv (.sc (.int .u8 0)), .pv (.sc (.int .u8 0)), .pv (.sc (.int .u8 0)), .pv (.sc (.int .u8 0)), .pv (.sc (.int .u8 0)), .pv (.sc (.int .u8 0)), .pv (.sc (.int .u8 0)), .pv (.sc (.int .u8 0)), .pv (.sc (.int .u8 0)), .pv (.sc (.int .u8 0)), .pv (.sc (.int .u8 0)), .pv (.sc (.int .u8 0)), .pv (.sc (.int .u8 0)), .pv (.sc (.int .u8 0)), .pv (.sc (.int .u8 0)), .pv (.sc (.int .u8 0)), .pv (.sc (.int .u8 0)), .pv (.sc (.int .u8 0)), .pv (.sc (.int .u8 0)), .pv (.sc (.int .u8 0)), .pv (.sc (.int .u8 0)), .pv (.sc (.int .u8 0))]) := by kernel_rfl
@[simp] theorem pl126 : place? Tryz.prog 126 = some (fun i => some (i * 2, 2)) := by kernel_rfl
@[simp] theorem ag130 : isAgg? Tryz.prog 130 = some true := by kernel_rfl
@[simp] theorem sz130 : size? Tryz.prog 130 = some 3 := by kernel_rfl
@[simp] theorem el130 : elem? Tryz.prog 130 = none := by kernel_rfl
@[simp] theorem ar130 : array? Tryz.prog 130 = none := by kernel_rfl
@[simp] theorem st130 : isStr Tryz.prog 130 = false := by kernel_rfl
@[simp] theorem ifc130 : isIface Tryz.prog 130 = some false := by kernel_rfl
@[simp] theorem zr130 : zero? Tryz.prog 130 = some (.agg [.pv (.sc (.string ⟨#[]⟩)), .pv (.sc (.string ⟨#[]⟩)), .pv (.sc .nilIface)]) := by kernel_rfl
@[simp] theorem pl130 : place? Tryz.prog 130 = some (fun i => ([(0, 1), (1, 1), (2, 1)] : List (Nat × Nat))[i]?) := by kernel_rfl
@[simp] theorem ag132 : isAgg? Tryz.prog 132 = some true := by kernel_rfl
@[simp] theorem sz132 : size? Tryz.prog 132 = some 24 := by kernel_rfl
@[simp] theorem el132 : elem? Tryz.prog 132 = none := by kernel_rfl
@[simp] theorem ar132 : array? Tryz.prog 132 = some (24, 1, false) := by kernel_rfl
@[simp] theorem st132 : isStr Tryz.prog 132 = false := by kernel_rfl
@[simp] theorem ifc132 : isIface Tryz.prog 132 = some false := by kernel_rfl
@[simp] theorem zr132 : zero? Tryz.prog 132 = some (.agg [.pv (.sc (.int .u8 0)), .pv (.sc (.int .u8 0)), .pv (.sc (.int .u8 0)), .pv (.sc (.int .u8 0)), .pv (.sc (.int .u8 0)), .pv (.sc (.int .u8 0)), .pv (.sc (.int .u8 0)), .pv (.sc (.int .u8 0)), .pv (.sc (.int .u8 0)), .pv (.sc (.int .u8 0)), .pv (.sc (.int .u8 0)), .pv (.sc (.int .u8 0)), .pv (.sc (.int .u8 0)), .pv (.sc (.int .u8 0)), .pv (.sc (.int .u8 0)), .pv (.sc (.int .u8 0)), .pv (.sc (.int .u8 0)), .pv (.sc (.int .u8 0)), .pv (.sc (.int .u8 0)), .pv (.sc (.int .u8 0)), .pv (.sc (.int .u8 0)), .pv (.sc (.int .u8 0)), .pv (.sc (.int .u8 0)), .pv (.sc (.int .u8 0))]) := by kernel_rfl
@[simp] theorem pl132 : place? Tryz.prog 132 = some (fun i => some (i * 1, 1)) := by kernel_rfl
@[simp] theorem ag137 : isAgg? Tryz.prog 137 = some false := by kernel_rfl
@[simp] theorem sz137 : size? Tryz.prog 137 = some 1 := by kernel_rfl
@[simp] theorem el137 : elem? Tryz.prog 137 = none := by kernel_rfl
@[simp] theorem ar137 : array? Tryz.prog 137 = none := by kernel_rfl
@[simp] theorem st137 : isStr Tryz.prog 137 = false := by kernel_rfl
@[simp] theorem ifc137 : isIface Tryz.prog 137 = some false := by kernel_rfl
@[simp] theorem zr137 : zero? Tryz.prog 137 = some (.cell (.pv (.sc (.pointer none)))) := by kernel_rfl
@[simp] theorem ag138 : isAgg? Tryz.prog 138 = some false := by kernel_rfl
@[simp] theorem sz138 : size? Tryz.prog 138 = some 1 := by kernel_rfl
@[simp] theorem el138 : elem? Tryz.prog 138 = none := by kernel_rfl
@[simp] theorem ar138 : array? Tryz.prog 138 = none := by kernel_rfl
@[simp] theorem st138 : isStr Tryz.prog 138 = false := by kernel_rfl
@[simp] theorem ifc138 : isIface Tryz.prog 138 = some false := by kernel_rfl
@[simp] theorem zr138 : zero? Tryz.prog 138 = some (.cell (.pv (.sc (.pointer none)))) := by kernel_rfl
@[simp] theorem ag140 : isAgg? Tryz.prog 140 = some true := by kernel_rfl
@[simp] theorem sz140 : size? Tryz.prog 140 = some 1 := by kernel_rfl
@[simp] theorem el140 : elem? Tryz.prog 140 = none := by kernel_rfl
@[simp] theorem ar140 : array? Tryz.prog 140 = none := by kernel_rfl
@[simp] theorem st140 : isStr Tryz.prog 140 = false := by kernel_rfl
@[simp] theorem ifc140 : isIface Tryz.prog 140 = some false := by kernel_rfl
@[simp] theorem zr140 : zero? Tryz.prog 140 = some (.agg [.pv (.sc (.string ⟨#[]⟩))]) := by kernel_rfl
@[simp] theorem pl140 : place? Tryz.prog 140 = some (fun i => ([(0, 1)] : List (Nat × Nat))[i]?) := by kernel_rfl
@[simp] theorem ag142 : isAgg? Tryz.prog 142 = some true := by kernel_rfl
@[simp] theorem sz142 : size? Tryz.prog 142 = some 20 := by kernel_rfl
@[simp] theorem el142 : elem? Tryz.prog 142 = none := by kernel_rfl
@[simp] theorem ar142 : array? Tryz.prog 142 = some (20, 1, false) := by kernel_rfl
@[simp] theorem st142 : isStr Tryz.prog 142 = false := by kernel_rfl
@[simp] theorem ifc142 : isIface Tryz.prog 142 = some false := by kernel_rfl
@[simp] theorem zr142 : zero? Tryz.prog 142 = some (.agg [.pv (.sc (.int .u64 0)), .pv (.sc (.int .u64 0)), .pv (.sc (.int .u64 0)), .pv (.sc (.int .u64 0)), .pv (.sc (.int .u64 0)), .pv (.sc (.int .u64 0)), .pv (.sc (.int .u64 0)), .pv (.sc (.int .u64 0)), .pv (.sc (.int .u64 0)), .pv (.sc (.int .u64 0)), .pv (.sc (.int .u64 0)), .pv (.sc (.int .u64 0)), .pv (.sc (.int .u64 0)), .pv (.sc (.int .u64 0)), .pv (.sc (.int .u64 0)), .pv (.sc (.int .u64 0)), .pv (.sc (.int .u64 0)), .pv (.sc (.int .u64 0)), .pv (.sc (.int .u64 0)), .pv (.sc (.int .u64 0))]) := by kernel_rfl
@[simp] theorem pl142 : place? Tryz.prog 142 = some (fun i => some (i * 1, 1)) := by kernel_rfl
@[simp] theorem ag143 : isAgg? Tryz.prog 143 = some false := by kernel_rfl
@[simp] theorem sz143 : size? Tryz.prog 143 = some 1 := by kernel_rfl
@[simp] theorem el143 : elem? Tryz.prog 143 = none := by kernel_rfl
@[simp] theorem ar143 : array? Tryz.prog 143 = none := by kernel_rfl
@[simp] theorem st143 : isStr Tryz.prog 143 = false := by kernel_rfl
@[simp] theorem ifc143 : isIface Tryz.prog 143 = some false := by kernel_rfl
@[simp] theorem zr143 : zero? Tryz.prog 143 = some (.cell (.pv (.sc (.int .u32 0)))) := by kernel_rfl
@[simp] theorem un143 : Program.underlying Tryz.prog 143 = some (.int .u32) := by kernel_rfl
@[simp] theorem ag144 : isAgg? Tryz.prog 144 = some true := by kernel_rfl
@[simp] theorem sz144 : size? Tryz.prog 144 = some 65 := by kernel_rfl
@[simp] theorem el144 : elem? Tryz.prog 144 = none := by kernel_rfl
@[simp] theorem ar144 : array? Tryz.prog 144 = some (65, 1, false) := by kernel_rfl
@[simp] theorem st144 : isStr Tryz.prog 144 = false := by kernel_rfl
@[simp] theorem ifc144 : isIface Tryz.prog 144 = some false := by kernel_rfl
@[simp] theorem pl144 : place? Tryz.prog 144 = some (fun i => some (i * 1, 1)) := by kernel_rfl
@[simp] theorem ag147 : isAgg? Tryz.prog 147 = some true := by kernel_rfl
@[simp] theorem sz147 : size? Tryz.prog 147 = some 32 := by kernel_rfl
@[simp] theorem el147 : elem? Tryz.prog 147 = none := by kernel_rfl
@[simp] theorem ar147 : array? Tryz.prog 147 = some (32, 1, false) := by kernel_rfl
@[simp] theorem st147 : isStr Tryz.prog 147 = false := by kernel_rfl
@[simp] theorem ifc147 : isIface Tryz.prog 147 = some false := by kernel_rfl
@[simp] theorem zr147 : zero? Tryz.prog 147 = some (.agg [.pv (.sc (.int .u8 0)), .pv (.sc (.int .u8 0)), .pv (.sc (.int .u8 0)), .pv (.sc (.int .u8 0)), .pv (.sc (.int .u8 0)), .pv (.sc (.int .u8 0)), .pv (.sc (.int .u8 0)), .pv (.sc (.int .u8 0)), .pv (.sc (.int .u8 0)), .pv (.sc (.int .u8 0)), .pv (.sc (.int .u8 0)), .pv (.sc (.int .u8 0)), .pv (.sc (.int .u8 0)), .pv (.sc (.int .u8 0)), .pv (.sc (.int .u8 0)), .pv (.sc (.int .u8 0)), .pv (.sc (.int .u8 0)), .pv (.sc (.int .u8 0)), .pv (.sc (.int .u8 0)), .pv (.sc (.int .u8 0)), .pv (.sc (.int .u8 0)), .pv (.sc (.int .u8 0)), .pv (.sc (.int .u8 0)), .pv (.sc (.int .u8 0)), .pv (.sc (.int .u8 0)), .pv (.sc (.int .u8 0)), .pv (.sc (.int .u8 0)), .pv (.sc (.int .u8 0)), .pv (.sc (.int .u8 0)), .pv (.sc (.int .u8 0)), .pv (.sc (.int .u8 0)), .pv (.sc (.int .u8 0))]) := by kernel_rfl
@[simp] theorem pl147 : place? Tryz.prog 147 = some (fun i => some (i * 1, 1)) := by kernel_rfl
@[simp] theorem ag148 : isAgg? Tryz.prog 148 = some true := by kernel_rfl
@[simp] theorem sz148 : size? Tryz.prog 148 = some 64 := by kernel_rfl
@[simp] theorem el148 : elem? Tryz.prog 148 = none := by kernel_rfl
@[simp] theorem ar148 : array? Tryz.prog 148 = some (64, 1, false) := by kernel_rfl
@[simp] theorem st148 : isStr Tryz.prog 148 = false := by kernel_rfl
@[simp] theorem ifc148 : isIface Tryz.prog 148 = some false := by kernel_rfl
@[simp] theorem pl148 : place? Tryz.prog 148 = some (fun i => some (i * 1, 1)) := by kernel_rfl
@[simp] theorem fd27_0 : field? Tryz.prog 27 0 = some (0, 1, false) := by kernel_rfl
@[simp] theorem fd27_1 : field? Tryz.prog 27 1 = some (1, 1, false) := by kernel_rfl
@[simp] theorem fd27_2 : field? Tryz.prog 27 2 = some (2, 1, false) := by kernel_rfl
@[simp] theorem fd27_3 : field? Tryz.prog 27 3 = some (3, 1, false) := by kernel_rfl
@[simp] theorem fd27_4 : field? Tryz.prog 27 4 = some (4, 1, false) := by kernel_rfl
@[simp] theorem fd29_0 : field? Tryz.prog 29 0 = some (0, 1, false) := by kernel_rfl
@[simp] theorem fd29_1 : field? Tryz.prog 29 1 = some (1, 1, false) := by kernel_rfl
@[simp] theorem fd29_2 : field? Tryz.prog 29 2 = some (2, 1, false) := by kernel_rfl
@[simp] theorem fd29_3 : field? Tryz.prog 29 3 = some (3, 5, true) := by kernel_rfl
@[simp] theorem fd29_4 : field? Tryz.prog 29 4 = some (8, 5, true) := by kernel_rfl
@[simp] theorem fd29_5 : field? Tryz.prog 29 5 = some (13, 5, true) := by kernel_rfl
@[simp] theorem fd83_0 : field? Tryz.prog 83 0 = some (0, 1, false) := by kernel_rfl
@[simp] theorem fd83_1 : field? Tryz.prog 83 1 = some (1, 1, false) := by kernel_rfl
@[simp] theorem fd83_2 : field? Tryz.prog 83 2 = some (2, 1, false) := by kernel_rfl
@[simp] theorem fd125_0 : field? Tryz.prog 125 0 = some (0, 1, false) := by kernel_rfl
@[simp] theorem fd125_1 : field? Tryz.prog 125 1 = some (1, 1, false) := by kernel_rfl
@[simp] theorem en3 : enters Tryz.prog 3 = true := by kernel_rfl
@[simp] theorem en4 : enters Tryz.prog 4 = true := by kernel_rfl
@[simp] theorem en5 : enters Tryz.prog 5 = true := by kernel_rfl
@[simp] theorem en6 : enters Tryz.prog 6 = true := by kernel_rfl
@[simp] theorem en7 : enters Tryz.prog 7 = true := by kernel_rfl
@[simp] theorem en8 : enters Tryz.prog 8 = true := by kernel_rfl
@[simp] theorem en9 : enters Tryz.prog 9 = true := by kernel_rfl
@[simp] theorem en10 : enters Tryz.prog 10 = true := by kernel_rfl
@[simp] theorem en11 : enters Tryz.prog 11 = true := by kernel_rfl
@[simp] theorem en12 : enters Tryz.prog 12 = true := by kernel_rfl
@[simp] theorem en13 : enters Tryz.prog 13 = true := by kernel_rfl
@[simp] theorem en14 : enters Tryz.prog 14 = true := by kernel_rfl
@[simp] theorem en15 : enters Tryz.prog 15 = true := by kernel_rfl
@[simp] theorem en16 : enters Tryz.prog 16 = true := by kernel_rfl
@[simp] theorem en17 : enters Tryz.prog 17 = true := by kernel_rfl
@[simp] theorem en18 : enters Tryz.prog 18 = true := by kernel_rfl
@[simp] theorem en19 : enters Tryz.prog 19 = true := by kernel_rfl
@[simp] theorem en20 : enters Tryz.prog 20 = true := by kernel_rfl
@[simp] theorem en21 : enters Tryz.prog 21 = true := by kernel_rfl
@[simp] theorem en22 : enters Tryz.prog 22 = true := by kernel_rfl
@[simp] theorem en23 : enters Tryz.prog 23 = true := by kernel_rfl
@[simp] theorem en24 : enters Tryz.prog 24 = true := by kernel_rfl
@[simp] theorem en25 : enters Tryz.prog 25 = true := by kernel_rfl
@[simp] theorem en26 : enters Tryz.prog 26 = true := by kernel_rfl
@[simp] theorem en27 : enters Tryz.prog 27 = true := by kernel_rfl
@[simp] theorem en28 : enters Tryz.prog 28 = true := by kernel_rfl
@[simp] theorem en29 : enters Tryz.prog 29 = true := by kernel_rfl
@[simp] theorem en30 : enters Tryz.prog 30 = true := by kernel_rfl
@[simp] theorem en31 : enters Tryz.prog 31 = true := by kernel_rfl
@[simp] theorem en32 : enters Tryz.prog 32 = true := by kernel_rfl
@[simp] theorem en33 : enters Tryz.prog 33 = true := by kernel_rfl
@[simp] theorem en34 : enters Tryz.prog 34 = true := by kernel_rfl
@[simp] theorem en35 : enters Tryz.prog 35 = true := by kernel_rfl
@[simp] theorem en36 : enters Tryz.prog 36 = true := by kernel_rfl
@[simp] theorem en37 : enters Tryz.prog 37 = true := by kernel_rfl
@[simp] theorem en38 : enters Tryz.prog 38 = true := by kernel_rfl
@[simp] theorem en39 : enters Tryz.prog 39 = true := by kernel_rfl
@[simp] theorem en40 : enters Tryz.prog 40 = true := by kernel_rfl
@[simp] theorem en41 : enters Tryz.prog 41 = true := by kernel_rfl
@[simp] theorem en42 : enters Tryz.prog 42 = true := by kernel_rfl
@[simp] theorem en43 : enters Tryz.prog 43 = true := by kernel_rfl
@[simp] theorem en44 : enters Tryz.prog 44 = true := by kernel_rfl
@[simp] theorem en45 : enters Tryz.prog 45 = true := by kernel_rfl
@[simp] theorem en46 : enters Tryz.prog 46 = true := by kernel_rfl
@[simp] theorem en47 : enters Tryz.prog 47 = true := by kernel_rfl
@[simp] theorem en48 : enters Tryz.prog 48 = true := by kernel_rfl
@[simp] theorem en49 : enters Tryz.prog 49 = true := by kernel_rfl
@[simp] theorem en50 : enters Tryz.prog 50 = true := by kernel_rfl
@[simp] theorem en51 : enters Tryz.prog 51 = true := by kernel_rfl
@[simp] theorem en52 : enters Tryz.prog 52 = true := by kernel_rfl
@[simp] theorem en53 : enters Tryz.prog 53 = true := by kernel_rfl
@[simp] theorem en54 : enters Tryz.prog 54 = true := by kernel_rfl
@[simp] theorem en55 : enters Tryz.prog 55 = true := by kernel_rfl
@[simp] theorem en56 : enters Tryz.prog 56 = true := by kernel_rfl
@[simp] theorem en57 : enters Tryz.prog 57 = true := by kernel_rfl
@[simp] theorem en58 : enters Tryz.prog 58 = true := by kernel_rfl
@[simp] theorem en59 : enters Tryz.prog 59 = true := by kernel_rfl
@[simp] theorem en60 : enters Tryz.prog 60 = true := by kernel_rfl
@[simp] theorem en61 : enters Tryz.prog 61 = true := by kernel_rfl
@[simp] theorem en62 : enters Tryz.prog 62 = true := by kernel_rfl
@[simp] theorem en63 : enters Tryz.prog 63 = true := by kernel_rfl
@[simp] theorem en64 : enters Tryz.prog 64 = true := by kernel_rfl
@[simp] theorem en65 : enters Tryz.prog 65 = true := by kernel_rfl
@[simp] theorem en66 : enters Tryz.prog 66 = true := by kernel_rfl
@[simp] theorem en67 : enters Tryz.prog 67 = true := by kernel_rfl
@[simp] theorem en68 : enters Tryz.prog 68 = true := by kernel_rfl
@[simp] theorem en69 : enters Tryz.prog 69 = true := by kernel_rfl
@[simp] theorem en70 : enters Tryz.prog 70 = true := by kernel_rfl
@[simp] theorem en71 : enters Tryz.prog 71 = true := by kernel_rfl
@[simp] theorem en72 : enters Tryz.prog 72 = true := by kernel_rfl
@[simp] theorem en73 : enters Tryz.prog 73 = true := by kernel_rfl
@[simp] theorem en74 : enters Tryz.prog 74 = true := by kernel_rfl
@[simp] theorem en75 : enters Tryz.prog 75 = true := by kernel_rfl
@[simp] theorem en76 : enters Tryz.prog 76 = true := by kernel_rfl
@[simp] theorem en77 : enters Tryz.prog 77 = true := by kernel_rfl
@[simp] theorem en78 : enters Tryz.prog 78 = true := by kernel_rfl
@[simp] theorem en79 : enters Tryz.prog 79 = true := by kernel_rfl
@[simp] theorem en80 : enters Tryz.prog 80 = true := by kernel_rfl
@[simp] theorem en81 : enters Tryz.prog 81 = true := by kernel_rfl
@[simp] theorem en82 : enters Tryz.prog 82 = true := by kernel_rfl
@[simp] theorem en83 : enters Tryz.prog 83 = true := by kernel_rfl
@[simp] theorem en84 : enters Tryz.prog 84 = true := by kernel_rfl
@[simp] theorem en85 : enters Tryz.prog 85 = true := by kernel_rfl
@[simp] theorem en86 : enters Tryz.prog 86 = true := by kernel_rfl
@[simp] theorem en87 : enters Tryz.prog 87 = true := by kernel_rfl
@[simp] theorem en88 : enters Tryz.prog 88 = true := by kernel_rfl
@[simp] theorem en89 : enters Tryz.prog 89 = true := by kernel_rfl
@[simp] theorem en90 : enters Tryz.prog 90 = true := by kernel_rfl
@[simp] theorem en91 : enters Tryz.prog 91 = true := by kernel_rfl
@[simp] theorem en92 : enters Tryz.prog 92 = true := by kernel_rfl
@[simp] theorem en93 : enters Tryz.prog 93 = true := by kernel_rfl
@[simp] theorem en94 : enters Tryz.prog 94 = true := by kernel_rfl
@[simp] theorem en95 : enters Tryz.prog 95 = true := by kernel_rfl
@[simp] theorem en96 : enters Tryz.prog 96 = true := by kernel_rfl
@[simp] theorem en97 : enters Tryz.prog 97 = true := by kernel_rfl
@[simp] theorem en98 : enters Tryz.prog 98 = true := by kernel_rfl
@[simp] theorem en99 : enters Tryz.prog 99 = true := by kernel_rfl
@[simp] theorem en100 : enters Tryz.prog 100 = true := by kernel_rfl
@[simp] theorem en101 : enters Tryz.prog 101 = true := by kernel_rfl
@[simp] theorem en102 : enters Tryz.prog 102 = true := by kernel_rfl
@[simp] theorem en103 : enters Tryz.prog 103 = true := by kernel_rfl
@[simp] theorem en104 : enters Tryz.prog 104 = true := by kernel_rfl
@[simp] theorem en105 : enters Tryz.prog 105 = true := by kernel_rfl
@[simp] theorem en106 : enters Tryz.prog 106 = true := by kernel_rfl
@[simp] theorem en107 : enters Tryz.prog 107 = true := by kernel_rfl
@[simp] theorem en108 : enters Tryz.prog 108 = true := by kernel_rfl
@[simp] theorem en109 : enters Tryz.prog 109 = true := by kernel_rfl
@[simp] theorem en110 : enters Tryz.prog 110 = true := by kernel_rfl
@[simp] theorem en111 : enters Tryz.prog 111 = true := by kernel_rfl
@[simp] theorem en112 : enters Tryz.prog 112 = true := by kernel_rfl
@[simp] theorem en113 : enters Tryz.prog 113 = true := by kernel_rfl
@[simp] theorem en114 : enters Tryz.prog 114 = true := by kernel_rfl
@[simp] theorem en115 : enters Tryz.prog 115 = true := by kernel_rfl
@[simp] theorem en116 : enters Tryz.prog 116 = true := by kernel_rfl
@[simp] theorem en117 : enters Tryz.prog 117 = true := by kernel_rfl
@[simp] theorem en118 : enters Tryz.prog 118 = true := by kernel_rfl
@[simp] theorem en119 : enters Tryz.prog 119 = true := by kernel_rfl
@[simp] theorem en120 : enters Tryz.prog 120 = true := by kernel_rfl
@[simp] theorem en121 : enters Tryz.prog 121 = true := by kernel_rfl
@[simp] theorem en122 : enters Tryz.prog 122 = true := by kernel_rfl
@[simp] theorem en123 : enters Tryz.prog 123 = true := by kernel_rfl
@[simp] theorem en124 : enters Tryz.prog 124 = true := by kernel_rfl
@[simp] theorem en125 : enters Tryz.prog 125 = true := by kernel_rfl
@[simp] theorem en126 : enters Tryz.prog 126 = true := by kernel_rfl
@[simp] theorem en127 : enters Tryz.prog 127 = true := by kernel_rfl
@[simp] theorem en128 : enters Tryz.prog 128 = true := by kernel_rfl
@[simp] theorem en129 : enters Tryz.prog 129 = true := by kernel_rfl
@[simp] theorem en130 : enters Tryz.prog 130 = true := by kernel_rfl
@[simp] theorem en131 : enters Tryz.prog 131 = true := by kernel_rfl
@[simp] theorem en132 : enters Tryz.prog 132 = true := by kernel_rfl
@[simp] theorem en133 : enters Tryz.prog 133 = true := by kernel_rfl
@[simp] theorem en134 : enters Tryz.prog 134 = true := by kernel_rfl
@[simp] theorem en135 : enters Tryz.prog 135 = true := by kernel_rfl
@[simp] theorem en136 : enters Tryz.prog 136 = true := by kernel_rfl
@[simp] theorem en137 : enters Tryz.prog 137 = true := by kernel_rfl
@[simp] theorem en138 : enters Tryz.prog 138 = true := by kernel_rfl
@[simp] theorem en139 : enters Tryz.prog 139 = true := by kernel_rfl
@[simp] theorem en140 : enters Tryz.prog 140 = true := by kernel_rfl
@[simp] theorem en141 : enters Tryz.prog 141 = true := by kernel_rfl
@[simp] theorem en142 : enters Tryz.prog 142 = true := by kernel_rfl
@[simp] theorem en143 : enters Tryz.prog 143 = true := by kernel_rfl
@[simp] theorem en144 : enters Tryz.prog 144 = true := by kernel_rfl
@[simp] theorem en145 : enters Tryz.prog 145 = true := by kernel_rfl
@[simp] theorem en146 : enters Tryz.prog 146 = true := by kernel_rfl
@[simp] theorem en147 : enters Tryz.prog 147 = true := by kernel_rfl
@[simp] theorem en148 : enters Tryz.prog 148 = true := by kernel_rfl
@[simp] theorem en149 : enters Tryz.prog 149 = true := by kernel_rfl
@[simp] theorem en150 : enters Tryz.prog 150 = true := by kernel_rfl
@[simp] theorem en151 : enters Tryz.prog 151 = true := by kernel_rfl
@[simp] theorem en152 : enters Tryz.prog 152 = true := by kernel_rfl
@[simp] theorem en153 : enters Tryz.prog 153 = true := by kernel_rfl
@[simp] theorem en154 : enters Tryz.prog 154 = true := by kernel_rfl
@[simp] theorem en155 : enters Tryz.prog 155 = true := by kernel_rfl
@[simp] theorem en156 : enters Tryz.prog 156 = true := by kernel_rfl
@[simp] theorem en157 : enters Tryz.prog 157 = true := by kernel_rfl
@[simp] theorem en158 : enters Tryz.prog 158 = true := by kernel_rfl
@[simp] theorem en159 : enters Tryz.prog 159 = true := by kernel_rfl
@[simp] theorem en160 : enters Tryz.prog 160 = true := by kernel_rfl
@[simp] theorem en161 : enters Tryz.prog 161 = true := by kernel_rfl
@[simp] theorem en162 : enters Tryz.prog 162 = true := by kernel_rfl
@[simp] theorem en163 : enters Tryz.prog 163 = true := by kernel_rfl
@[simp] theorem en164 : enters Tryz.prog 164 = true := by kernel_rfl
@[simp] theorem en165 : enters Tryz.prog 165 = true := by kernel_rfl
theorem mixed : Tryz.prog.follows .mixedOrders = true := by kernel_rfl
end Abs
end Go.Proofs.YtjfcgdablmjmnaaGreatDoor
