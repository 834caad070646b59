/-
  What the evaluator asks of the program's types.
-/
import Derived.Test.YtoelojmcopcpcaaGreatDoorAbsT
import Derived.Test.YtoelojmcopcpcaaGreatDoorProg
import Derived.KernelRfl
namespace Go.Proofs.YtoelojmcopcpcaaGreatDoor
namespace Abs
@[simp] theorem ag2 : isAgg? Tryz.prog 2 = some false := by kernel_rfl
@[simp] theorem sz2 : size? Tryz.prog 2 = some 1 := by kernel_rfl
@[simp] theorem el2 : elem? Tryz.prog 2 = none := by kernel_rfl
@[simp] theorem ar2 : array? Tryz.prog 2 = none := by kernel_rfl
@[simp] theorem st2 : isStr Tryz.prog 2 = false := by kernel_rfl
@[simp] theorem ifc2 : isIface Tryz.prog 2 = some false := by kernel_rfl
@[simp] theorem zr2 : zero? Tryz.prog 2 = some (.cell (.pv (.sc (.int .i64 0)))) := by kernel_rfl
@[simp] theorem un2 : Program.underlying Tryz.prog 2 = some (.int .i64) := by kernel_rfl
@[simp] theorem ag3 : isAgg? Tryz.prog 3 = some false := by kernel_rfl
@[simp] theorem sz3 : size? Tryz.prog 3 = some 1 := by kernel_rfl
@[simp] theorem el3 : elem? Tryz.prog 3 = none := by kernel_rfl
@[simp] theorem ar3 : array? Tryz.prog 3 = none := by kernel_rfl
@[simp] theorem st3 : isStr Tryz.prog 3 = false := by kernel_rfl
@[simp] theorem ifc3 : isIface Tryz.prog 3 = some false := by kernel_rfl
@[simp] theorem zr3 : zero? Tryz.prog 3 = some (.cell (.pv (.sc (.int .i64 0)))) := by kernel_rfl
@[simp] theorem un3 : Program.underlying Tryz.prog 3 = some (.int .i64) := by kernel_rfl
@[simp] theorem ag4 : isAgg? Tryz.prog 4 = some false := by kernel_rfl
@[simp] theorem sz4 : size? Tryz.prog 4 = some 1 := by kernel_rfl
@[simp] theorem el4 : elem? Tryz.prog 4 = none := by kernel_rfl
@[simp] theorem ar4 : array? Tryz.prog 4 = none := by kernel_rfl
@[simp] theorem st4 : isStr Tryz.prog 4 = false := by kernel_rfl
@[simp] theorem ifc4 : isIface Tryz.prog 4 = some false := by kernel_rfl
@[simp] theorem zr4 : zero? Tryz.prog 4 = some (.cell (.pv (.sc (.bool false)))) := by kernel_rfl
@[simp] theorem un4 : Program.underlying Tryz.prog 4 = some .bool := by kernel_rfl
@[simp] theorem ag5 : isAgg? Tryz.prog 5 = some false := by kernel_rfl
@[simp] theorem sz5 : size? Tryz.prog 5 = some 1 := by kernel_rfl
@[simp] theorem el5 : elem? Tryz.prog 5 = none := by kernel_rfl
@[simp] theorem ar5 : array? Tryz.prog 5 = none := by kernel_rfl
@[simp] theorem st5 : isStr Tryz.prog 5 = false := by kernel_rfl
@[simp] theorem ifc5 : isIface Tryz.prog 5 = some false := by kernel_rfl
@[simp] theorem zr5 : zero? Tryz.prog 5 = some (.cell (.pv (.sc (.int .u8 0)))) := by kernel_rfl
@[simp] theorem un5 : Program.underlying Tryz.prog 5 = some (.int .u8) := by kernel_rfl
@[simp] theorem ag9 : isAgg? Tryz.prog 9 = some false := by kernel_rfl
@[simp] theorem sz9 : size? Tryz.prog 9 = some 1 := by kernel_rfl
@[simp] theorem el9 : elem? Tryz.prog 9 = none := by kernel_rfl
@[simp] theorem ar9 : array? Tryz.prog 9 = none := by kernel_rfl
@[simp] theorem st9 : isStr Tryz.prog 9 = true := by kernel_rfl
@[simp] theorem ifc9 : isIface Tryz.prog 9 = some false := by kernel_rfl
@[simp] theorem zr9 : zero? Tryz.prog 9 = some (.cell (.pv (.sc (.string ⟨#[]⟩)))) := by kernel_rfl
@[simp] theorem un9 : Program.underlying Tryz.prog 9 = some .string := by kernel_rfl
@[simp] theorem ag12 : isAgg? Tryz.prog 12 = some false := by kernel_rfl
@[simp] theorem sz12 : size? Tryz.prog 12 = some 1 := by kernel_rfl
@[simp] theorem el12 : elem? Tryz.prog 12 = none := by kernel_rfl
@[simp] theorem ar12 : array? Tryz.prog 12 = none := by kernel_rfl
@[simp] theorem st12 : isStr Tryz.prog 12 = false := by kernel_rfl
@[simp] theorem ifc12 : isIface Tryz.prog 12 = some false := by kernel_rfl
@[simp] theorem zr12 : zero? Tryz.prog 12 = some (.cell (.pv (.sc (.int .u64 0)))) := by kernel_rfl
@[simp] theorem un12 : Program.underlying Tryz.prog 12 = some (.int .u64) := by kernel_rfl
@[simp] theorem ag21 : isAgg? Tryz.prog 21 = some false := by kernel_rfl
@[simp] theorem sz21 : size? Tryz.prog 21 = some 1 := by kernel_rfl
@[simp] theorem el21 : elem? Tryz.prog 21 = none := by kernel_rfl
@[simp] theorem ar21 : array? Tryz.prog 21 = none := by kernel_rfl
@[simp] theorem st21 : isStr Tryz.prog 21 = false := by kernel_rfl
@[simp] theorem ifc21 : isIface Tryz.prog 21 = some false := by kernel_rfl
@[simp] theorem zr21 : zero? Tryz.prog 21 = some (.cell (.pv (.sc (.int .i32 0)))) := by kernel_rfl
@[simp] theorem un21 : Program.underlying Tryz.prog 21 = some (.int .i32) := by kernel_rfl
@[simp] theorem ag22 : isAgg? Tryz.prog 22 = some false := by kernel_rfl
@[simp] theorem sz22 : size? Tryz.prog 22 = some 1 := by kernel_rfl
@[simp] theorem el22 : elem? Tryz.prog 22 = some (9, 1, 16) := by kernel_rfl
@[simp] theorem ar22 : array? Tryz.prog 22 = none := by kernel_rfl
@[simp] theorem st22 : isStr Tryz.prog 22 = false := by kernel_rfl
@[simp] theorem ifc22 : isIface Tryz.prog 22 = some false := by kernel_rfl
@[simp] theorem zr22 : zero? Tryz.prog 22 = some (.cell (.pv (.sc (.slice none 0 0)))) := by kernel_rfl
@[simp] theorem un22 : Program.underlying Tryz.prog 22 = some (.slice 9) := by kernel_rfl
@[simp] theorem ag29 : isAgg? Tryz.prog 29 = some true := by kernel_rfl
@[simp] theorem sz29 : size? Tryz.prog 29 = some 4 := by kernel_rfl
@[simp] theorem el29 : elem? Tryz.prog 29 = none := by kernel_rfl
@[simp] theorem ar29 : array? Tryz.prog 29 = none := by kernel_rfl
@[simp] theorem st29 : isStr Tryz.prog 29 = false := by kernel_rfl
@[simp] theorem ifc29 : isIface Tryz.prog 29 = some false := by kernel_rfl
@[simp] theorem zr29 : zero? Tryz.prog 29 = some (.agg [.pv (.sc (.string ⟨#[]⟩)), .pv (.sc (.int .i64 0)), .pv (.sc (.int .i64 0)), .pv (.sc (.bool false))]) := by kernel_rfl
@[simp] theorem pl29 : place? Tryz.prog 29 = some (fun i => ([(0, 1), (1, 1), (2, 1), (3, 1)] : List (Nat × Nat))[i]?) := by kernel_rfl
@[simp] theorem ag32 : isAgg? Tryz.prog 32 = some false := by kernel_rfl
@[simp] theorem sz32 : size? Tryz.prog 32 = some 1 := by kernel_rfl
@[simp] theorem el32 : elem? Tryz.prog 32 = none := by kernel_rfl
@[simp] theorem ar32 : array? Tryz.prog 32 = none := by kernel_rfl
@[simp] theorem st32 : isStr Tryz.prog 32 = false := by kernel_rfl
@[simp] theorem ifc32 : isIface Tryz.prog 32 = some false := by kernel_rfl
@[simp] theorem zr32 : zero? Tryz.prog 32 = some (.cell (.pv (.sc (.int .i64 0)))) := by kernel_rfl
@[simp] theorem un32 : Program.underlying Tryz.prog 32 = some (.int .i64) := by kernel_rfl
@[simp] theorem ag33 : isAgg? Tryz.prog 33 = some false := by kernel_rfl
@[simp] theorem sz33 : size? Tryz.prog 33 = some 1 := by kernel_rfl
@[simp] theorem el33 : elem? Tryz.prog 33 = some (35, 5, 80) := by kernel_rfl
@[simp] theorem ar33 : array? Tryz.prog 33 = none := by kernel_rfl
@[simp] theorem st33 : isStr Tryz.prog 33 = false := by kernel_rfl
@[simp] theorem ifc33 : isIface Tryz.prog 33 = some false := by kernel_rfl
@[simp] theorem zr33 : zero? Tryz.prog 33 = some (.cell (.pv (.sc (.slice none 0 0)))) := by kernel_rfl
@[simp] theorem un33 : Program.underlying Tryz.prog 33 = some (.slice 35) := by kernel_rfl
@[simp] theorem ag35 : isAgg? Tryz.prog 35 = some true := by kernel_rfl
@[simp] theorem sz35 : size? Tryz.prog 35 = some 5 := by kernel_rfl
@[simp] theorem el35 : elem? Tryz.prog 35 = none := by kernel_rfl
@[simp] theorem ar35 : array? Tryz.prog 35 = none := by kernel_rfl
@[simp] theorem st35 : isStr Tryz.prog 35 = false := by kernel_rfl
@[simp] theorem ifc35 : isIface Tryz.prog 35 = some false := by kernel_rfl
@[simp] theorem zr35 : zero? Tryz.prog 35 = some (.agg [.pv (.sc (.int .i64 0)), .pv (.sc (.int .i64 0)), .pv (.sc (.string ⟨#[]⟩)), .pv (.sc (.slice none 0 0)), .pv (.sc (.slice none 0 0))]) := by kernel_rfl
@[simp] theorem pl35 : place? Tryz.prog 35 = some (fun i => ([(0, 1), (1, 1), (2, 1), (3, 1), (4, 1)] : List (Nat × Nat))[i]?) := by kernel_rfl
@[simp] theorem ag36 : isAgg? Tryz.prog 36 = some false := by kernel_rfl
@[simp] theorem sz36 : size? Tryz.prog 36 = some 1 := by kernel_rfl
@[simp] theorem el36 : elem? Tryz.prog 36 = none := by kernel_rfl
@[simp] theorem ar36 : array? Tryz.prog 36 = none := by kernel_rfl
@[simp] theorem st36 : isStr Tryz.prog 36 = false := by kernel_rfl
@[simp] theorem ifc36 : isIface Tryz.prog 36 = some false := by kernel_rfl
@[simp] theorem zr36 : zero? Tryz.prog 36 = some (.cell (.pv (.sc (.int .i64 0)))) := by kernel_rfl
@[simp] theorem un36 : Program.underlying Tryz.prog 36 = some (.int .i64) := by kernel_rfl
@[simp] theorem ag51 : isAgg? Tryz.prog 51 = some false := by kernel_rfl
@[simp] theorem sz51 : size? Tryz.prog 51 = some 1 := by kernel_rfl
@[simp] theorem el51 : elem? Tryz.prog 51 = none := by kernel_rfl
@[simp] theorem ar51 : array? Tryz.prog 51 = none := by kernel_rfl
@[simp] theorem st51 : isStr Tryz.prog 51 = false := by kernel_rfl
@[simp] theorem ifc51 : isIface Tryz.prog 51 = some false := by kernel_rfl
@[simp] theorem zr51 : zero? Tryz.prog 51 = some (.cell (.pv (.sc .nilFunc))) := by kernel_rfl
@[simp] theorem ag52 : isAgg? Tryz.prog 52 = some false := by kernel_rfl
@[simp] theorem sz52 : size? Tryz.prog 52 = some 1 := by kernel_rfl
@[simp] theorem el52 : elem? Tryz.prog 52 = none := by kernel_rfl
@[simp] theorem ar52 : array? Tryz.prog 52 = none := by kernel_rfl
@[simp] theorem st52 : isStr Tryz.prog 52 = false := by kernel_rfl
@[simp] theorem ifc52 : isIface Tryz.prog 52 = some false := by kernel_rfl
@[simp] theorem zr52 : zero? Tryz.prog 52 = some (.cell (.pv (.sc .nilFunc))) := by kernel_rfl
@[simp] theorem ag55 : isAgg? Tryz.prog 55 = some false := by kernel_rfl
@[simp] theorem sz55 : size? Tryz.prog 55 = some 1 := by kernel_rfl
@[simp] theorem el55 : elem? Tryz.prog 55 = some (32, 1, 8) := by kernel_rfl
@[simp] theorem ar55 : array? Tryz.prog 55 = none := by kernel_rfl
@[simp] theorem st55 : isStr Tryz.prog 55 = false := by kernel_rfl
@[simp] theorem ifc55 : isIface Tryz.prog 55 = some false := by kernel_rfl
@[simp] theorem zr55 : zero? Tryz.prog 55 = some (.cell (.pv (.sc (.slice none 0 0)))) := by kernel_rfl
@[simp] theorem un55 : Program.underlying Tryz.prog 55 = some (.slice 32) := by kernel_rfl
@[simp] theorem ag80 : isAgg? Tryz.prog 80 = some false := by kernel_rfl
@[simp] theorem sz80 : size? Tryz.prog 80 = some 1 := by kernel_rfl
@[simp] theorem el80 : elem? Tryz.prog 80 = none := by kernel_rfl
@[simp] theorem ar80 : array? Tryz.prog 80 = none := by kernel_rfl
@[simp] theorem st80 : isStr Tryz.prog 80 = false := by kernel_rfl
@[simp] theorem ifc80 : isIface Tryz.prog 80 = some false := by kernel_rfl
@[simp] theorem zr80 : zero? Tryz.prog 80 = some (.cell (.pv (.sc (.int .i64 0)))) := by kernel_rfl
@[simp] theorem un80 : Program.underlying Tryz.prog 80 = some (.int .i64) := by kernel_rfl
@[simp] theorem ag81 : isAgg? Tryz.prog 81 = some false := by kernel_rfl
@[simp] theorem sz81 : size? Tryz.prog 81 = some 1 := by kernel_rfl
@[simp] theorem el81 : elem? Tryz.prog 81 = some (83, 3, 56) := by kernel_rfl
@[simp] theorem ar81 : array? Tryz.prog 81 = none := by kernel_rfl
@[simp] theorem st81 : isStr Tryz.prog 81 = false := by kernel_rfl
@[simp] theorem ifc81 : isIface Tryz.prog 81 = some false := by kernel_rfl
@[simp] theorem zr81 : zero? Tryz.prog 81 = some (.cell (.pv (.sc (.slice none 0 0)))) := by kernel_rfl
@[simp] theorem un81 : Program.underlying Tryz.prog 81 = some (.slice 83) := by kernel_rfl
@[simp] theorem ag83 : isAgg? Tryz.prog 83 = some true := by kernel_rfl
@[simp] theorem sz83 : size? Tryz.prog 83 = some 3 := by kernel_rfl
@[simp] theorem el83 : elem? Tryz.prog 83 = none := by kernel_rfl
@[simp] theorem ar83 : array? Tryz.prog 83 = none := by kernel_rfl
@[simp] theorem st83 : isStr Tryz.prog 83 = false := by kernel_rfl
@[simp] theorem ifc83 : isIface Tryz.prog 83 = some false := by kernel_rfl
@[simp] theorem zr83 : zero? Tryz.prog 83 = some (.agg [.pv (.sc (.int .i64 0)), .pv (.sc (.slice none 0 0)), .pv (.sc (.slice none 0 0))]) := by kernel_rfl
@[simp] theorem pl83 : place? Tryz.prog 83 = some (fun i => ([(0, 1), (1, 1), (2, 1)] : List (Nat × Nat))[i]?) := by kernel_rfl
@[simp] theorem ag86 : isAgg? Tryz.prog 86 = some false := by kernel_rfl
@[simp] theorem sz86 : size? Tryz.prog 86 = some 1 := by kernel_rfl
@[simp] theorem el86 : elem? Tryz.prog 86 = none := by kernel_rfl
@[simp] theorem ar86 : array? Tryz.prog 86 = none := by kernel_rfl
@[simp] theorem st86 : isStr Tryz.prog 86 = false := by kernel_rfl
@[simp] theorem ifc86 : isIface Tryz.prog 86 = some false := by kernel_rfl
@[simp] theorem zr86 : zero? Tryz.prog 86 = some (.cell (.pv (.sc .nilFunc))) := by kernel_rfl
@[simp] theorem ag92 : isAgg? Tryz.prog 92 = some false := by kernel_rfl
@[simp] theorem sz92 : size? Tryz.prog 92 = some 1 := by kernel_rfl
@[simp] theorem el92 : elem? Tryz.prog 92 = some (5, 1, 1) := by kernel_rfl
@[simp] theorem ar92 : array? Tryz.prog 92 = none := by kernel_rfl
@[simp] theorem st92 : isStr Tryz.prog 92 = false := by kernel_rfl
@[simp] theorem ifc92 : isIface Tryz.prog 92 = some false := by kernel_rfl
@[simp] theorem zr92 : zero? Tryz.prog 92 = some (.cell (.pv (.sc (.slice none 0 0)))) := by kernel_rfl
@[simp] theorem un92 : Program.underlying Tryz.prog 92 = some (.slice 5) := by kernel_rfl
@[simp] theorem ag97 : isAgg? Tryz.prog 97 = some true := by kernel_rfl
@[simp] theorem sz97 : size? Tryz.prog 97 = some 256 := by kernel_rfl
@[simp] theorem el97 : elem? Tryz.prog 97 = none := by kernel_rfl
@[simp] theorem ar97 : array? Tryz.prog 97 = some (256, 1, false) := by kernel_rfl
@[simp] theorem st97 : isStr Tryz.prog 97 = false := by kernel_rfl
@[simp] theorem ifc97 : isIface Tryz.prog 97 = some false := by kernel_rfl
@[simp] theorem pl97 : place? Tryz.prog 97 = some (fun i => some (i * 1, 1)) := by kernel_rfl
@[simp] theorem ag101 : isAgg? Tryz.prog 101 = some false := by kernel_rfl
@[simp] theorem sz101 : size? Tryz.prog 101 = some 1 := by kernel_rfl
@[simp] theorem el101 : elem? Tryz.prog 101 = none := by kernel_rfl
@[simp] theorem ar101 : array? Tryz.prog 101 = none := by kernel_rfl
@[simp] theorem st101 : isStr Tryz.prog 101 = false := by kernel_rfl
@[simp] theorem ifc101 : isIface Tryz.prog 101 = some false := by kernel_rfl
@[simp] theorem zr101 : zero? Tryz.prog 101 = some (.cell (.pv (.sc (.pointer none)))) := by kernel_rfl
@[simp] theorem ag102 : isAgg? Tryz.prog 102 = some false := by kernel_rfl
@[simp] theorem sz102 : size? Tryz.prog 102 = some 1 := by kernel_rfl
@[simp] theorem el102 : elem? Tryz.prog 102 = none := by kernel_rfl
@[simp] theorem ar102 : array? Tryz.prog 102 = none := by kernel_rfl
@[simp] theorem st102 : isStr Tryz.prog 102 = false := by kernel_rfl
@[simp] theorem ifc102 : isIface Tryz.prog 102 = some false := by kernel_rfl
@[simp] theorem zr102 : zero? Tryz.prog 102 = some (.cell (.pv (.sc .nilFunc))) := by kernel_rfl
@[simp] theorem ag105 : isAgg? Tryz.prog 105 = some false := by kernel_rfl
@[simp] theorem sz105 : size? Tryz.prog 105 = some 1 := by kernel_rfl
@[simp] theorem el105 : elem? Tryz.prog 105 = some (3, 1, 8) := by kernel_rfl
@[simp] theorem ar105 : array? Tryz.prog 105 = none := by kernel_rfl
@[simp] theorem st105 : isStr Tryz.prog 105 = false := by kernel_rfl
@[simp] theorem ifc105 : isIface Tryz.prog 105 = some false := by kernel_rfl
@[simp] theorem zr105 : zero? Tryz.prog 105 = some (.cell (.pv (.sc (.slice none 0 0)))) := by kernel_rfl
@[simp] theorem un105 : Program.underlying Tryz.prog 105 = some (.slice 3) := by kernel_rfl
@[simp] theorem ag108 : isAgg? Tryz.prog 108 = some false := by kernel_rfl
@[simp] theorem sz108 : size? Tryz.prog 108 = some 1 := by kernel_rfl
@[simp] theorem el108 : elem? Tryz.prog 108 = none := by kernel_rfl
@[simp] theorem ar108 : array? Tryz.prog 108 = none := by kernel_rfl
@[simp] theorem st108 : isStr Tryz.prog 108 = false := by kernel_rfl
@[simp] theorem ifc108 : isIface Tryz.prog 108 = some false := by kernel_rfl
@[simp] theorem zr108 : zero? Tryz.prog 108 = some (.cell (.pv (.sc .nilFunc))) := by kernel_rfl
@[simp] theorem ag112 : isAgg? Tryz.prog 112 = some false := by kernel_rfl
@[simp] theorem sz112 : size? Tryz.prog 112 = some 1 := by kernel_rfl
@[simp] theorem el112 : elem? Tryz.prog 112 = none := by kernel_rfl
@[simp] theorem ar112 : array? Tryz.prog 112 = none := by kernel_rfl
@[simp] theorem st112 : isStr Tryz.prog 112 = false := by kernel_rfl
@[simp] theorem ifc112 : isIface Tryz.prog 112 = some false := by kernel_rfl
@[simp] theorem zr112 : zero? Tryz.prog 112 = some (.cell (.pv (.sc (.int .u64 0)))) := by kernel_rfl
@[simp] theorem un112 : Program.underlying Tryz.prog 112 = some (.int .u64) := by kernel_rfl
@[simp] theorem ag115 : isAgg? Tryz.prog 115 = some false := by kernel_rfl
@[simp] theorem sz115 : size? Tryz.prog 115 = some 1 := by kernel_rfl
@[simp] theorem el115 : elem? Tryz.prog 115 = none := by kernel_rfl
@[simp] theorem ar115 : array? Tryz.prog 115 = none := by kernel_rfl
@[simp] theorem st115 : isStr Tryz.prog 115 = false := by kernel_rfl
@[simp] theorem ifc115 : isIface Tryz.prog 115 = some false := by kernel_rfl
@[simp] theorem zr115 : zero? Tryz.prog 115 = some (.cell (.pv (.sc (.pointer none)))) := by kernel_rfl
@[simp] theorem ag117 : isAgg? Tryz.prog 117 = some true := by kernel_rfl
@[simp] theorem sz117 : size? Tryz.prog 117 = some 2 := by kernel_rfl
@[simp] theorem el117 : elem? Tryz.prog 117 = none := by kernel_rfl
@[simp] theorem ar117 : array? Tryz.prog 117 = none := by kernel_rfl
@[simp] theorem st117 : isStr Tryz.prog 117 = false := by kernel_rfl
@[simp] theorem ifc117 : isIface Tryz.prog 117 = some false := by kernel_rfl
@[simp] theorem zr117 : zero? Tryz.prog 117 = some (.agg [.pv (.sc (.pointer none)), .pv (.sc (.slice none 0 0))]) := by kernel_rfl
@[simp] theorem pl117 : place? Tryz.prog 117 = some (fun i => ([(0, 1), (1, 1)] : List (Nat × Nat))[i]?) := by kernel_rfl
@[simp] theorem ag120 : isAgg? Tryz.prog 120 = some false := by kernel_rfl
@[simp] theorem sz120 : size? Tryz.prog 120 = some 1 := by kernel_rfl
@[simp] theorem el120 : elem? Tryz.prog 120 = none := by kernel_rfl
@[simp] theorem ar120 : array? Tryz.prog 120 = none := by kernel_rfl
@[simp] theorem st120 : isStr Tryz.prog 120 = false := by kernel_rfl
@[simp] theorem ifc120 : isIface Tryz.prog 120 = some true := by kernel_rfl
@[simp] theorem zr120 : zero? Tryz.prog 120 = some (.cell (.pv (.sc .nilIface))) := by kernel_rfl
@[simp] theorem ag136 : isAgg? Tryz.prog 136 = some false := by kernel_rfl
@[simp] theorem sz136 : size? Tryz.prog 136 = some 1 := by kernel_rfl
@[simp] theorem el136 : elem? Tryz.prog 136 = none := by kernel_rfl
@[simp] theorem ar136 : array? Tryz.prog 136 = none := by kernel_rfl
@[simp] theorem st136 : isStr Tryz.prog 136 = false := by kernel_rfl
@[simp] theorem ifc136 : isIface Tryz.prog 136 = some false := by kernel_rfl
@[simp] theorem zr136 : zero? Tryz.prog 136 = some (.cell (.pv (.sc (.int .i64 0)))) := by kernel_rfl
@[simp] theorem un136 : Program.underlying Tryz.prog 136 = some (.int .i64) := by kernel_rfl
@[simp] theorem ag143 : isAgg? Tryz.prog 143 = some false := by kernel_rfl
@[simp] theorem sz143 : size? Tryz.prog 143 = some 1 := by kernel_rfl
@[simp] theorem el143 : elem? Tryz.prog 143 = none := by kernel_rfl
@[simp] theorem ar143 : array? Tryz.prog 143 = none := by kernel_rfl
@[simp] theorem st143 : isStr Tryz.prog 143 = false := by kernel_rfl
@[simp] theorem ifc143 : isIface Tryz.prog 143 = some false := by kernel_rfl
@[simp] theorem zr143 : zero? Tryz.prog 143 = some (.cell (.pv (.sc (.int .u32 0)))) := by kernel_rfl
@[simp] theorem un143 : Program.underlying Tryz.prog 143 = some (.int .u32) := by kernel_rfl
@[simp] theorem ag145 : isAgg? Tryz.prog 145 = some false := by kernel_rfl
@[simp] theorem sz145 : size? Tryz.prog 145 = some 1 := by kernel_rfl
@[simp] theorem el145 : elem? Tryz.prog 145 = none := by kernel_rfl
@[simp] theorem ar145 : array? Tryz.prog 145 = none := by kernel_rfl
@[simp] theorem st145 : isStr Tryz.prog 145 = false := by kernel_rfl
@[simp] theorem ifc145 : isIface Tryz.prog 145 = some false := by kernel_rfl
@[simp] theorem zr145 : zero? Tryz.prog 145 = some (.cell (.pv (.sc (.int .u64 0)))) := by kernel_rfl
@[simp] theorem un145 : Program.underlying Tryz.prog 145 = some (.int .u64) := by kernel_rfl
@[simp] theorem ag147 : isAgg? Tryz.prog 147 = some false := by kernel_rfl
@[simp] theorem sz147 : size? Tryz.prog 147 = some 1 := by kernel_rfl
@[simp] theorem el147 : elem? Tryz.prog 147 = none := by kernel_rfl
@[simp] theorem ar147 : array? Tryz.prog 147 = none := by kernel_rfl
@[simp] theorem st147 : isStr Tryz.prog 147 = false := by kernel_rfl
@[simp] theorem ifc147 : isIface Tryz.prog 147 = some false := by kernel_rfl
@[simp] theorem zr147 : zero? Tryz.prog 147 = some (.cell (.pv (.sc (.pointer none)))) := by kernel_rfl
@[simp] theorem ag158 : isAgg? Tryz.prog 158 = some false := by kernel_rfl
@[simp] theorem sz158 : size? Tryz.prog 158 = some 1 := by kernel_rfl
@[simp] theorem el158 : elem? Tryz.prog 158 = none := by kernel_rfl
@[simp] theorem ar158 : array? Tryz.prog 158 = none := by kernel_rfl
@[simp] theorem st158 : isStr Tryz.prog 158 = false := by kernel_rfl
@[simp] theorem ifc158 : isIface Tryz.prog 158 = some false := by kernel_rfl
@[simp] theorem zr158 : zero? Tryz.prog 158 = some (.cell (.pv (.sc (.int .u64 0)))) := by kernel_rfl
@[simp] theorem un158 : Program.underlying Tryz.prog 158 = some (.int .u64) := by kernel_rfl
@[simp] theorem ag162 : isAgg? Tryz.prog 162 = some false := by kernel_rfl
@[simp] theorem sz162 : size? Tryz.prog 162 = some 1 := by kernel_rfl
@[simp] theorem el162 : elem? Tryz.prog 162 = none := by kernel_rfl
@[simp] theorem ar162 : array? Tryz.prog 162 = none := by kernel_rfl
@[simp] theorem st162 : isStr Tryz.prog 162 = false := by kernel_rfl
@[simp] theorem ifc162 : isIface Tryz.prog 162 = some false := by kernel_rfl
@[simp] theorem zr162 : zero? Tryz.prog 162 = some (.cell (.pv (.sc (.pointer none)))) := by kernel_rfl
@[simp] theorem ag165 : isAgg? Tryz.prog 165 = some true := by kernel_rfl
@[simp] theorem sz165 : size? Tryz.prog 165 = some 256 := by kernel_rfl
@[simp] theorem el165 : elem? Tryz.prog 165 = none := by kernel_rfl
@[simp] theorem ar165 : array? Tryz.prog 165 = some (256, 1, false) := by kernel_rfl
@[simp] theorem st165 : isStr Tryz.prog 165 = false := by kernel_rfl
@[simp] theorem ifc165 : isIface Tryz.prog 165 = some false := by kernel_rfl
@[simp] theorem pl165 : place? Tryz.prog 165 = some (fun i => some (i * 1, 1)) := by kernel_rfl
@[simp] theorem ag167 : isAgg? Tryz.prog 167 = some true := by kernel_rfl
@[simp] theorem sz167 : size? Tryz.prog 167 = some 2 := by kernel_rfl
@[simp] theorem el167 : elem? Tryz.prog 167 = none := by kernel_rfl
@[simp] theorem ar167 : array? Tryz.prog 167 = none := by kernel_rfl
@[simp] theorem st167 : isStr Tryz.prog 167 = false := by kernel_rfl
@[simp] theorem ifc167 : isIface Tryz.prog 167 = some false := by kernel_rfl
@[simp] theorem zr167 : zero? Tryz.prog 167 = some (.agg [.pv (.sc (.int .u8 0)), .pv (.sc (.int .u8 0))]) := by kernel_rfl
@[simp] theorem pl167 : place? Tryz.prog 167 = some (fun i => ([(0, 1), (1, 1)] : List (Nat × Nat))[i]?) := by kernel_rfl
@[simp] theorem ag168 : isAgg? Tryz.prog 168 = some true := by kernel_rfl
@[simp] theorem sz168 : size? Tryz.prog 168 = some 32 := by kernel_rfl
@[simp] theorem el168 : elem? Tryz.prog 168 = none := by kernel_rfl
@[simp] theorem ar168 : array? Tryz.prog 168 = some (16, 2, true) := by kernel_rfl
@[simp] theorem st168 : isStr Tryz.prog 168 = false := by kernel_rfl
@[simp] theorem ifc168 : isIface Tryz.prog 168 = some false := by kernel_rfl
@[simp] theorem zr168 : zero? Tryz.prog 168 = some (.agg [.pv (.sc (.int .u8 0)), .pv (.sc (.int .u8 0)), .pv (.sc (.int .u8 0)), .pv (.sc (.int .u8 0)), .pv (.sc (.int .u8 0)), .pv (.sc (.int .u8 0)), .pv (.sc (.int .u8 0)), .pv (.sc (.int .u8 0)), .pv (.sc (.int .u8 0)), .pv (.sc (.int .u8 0)), .pv (.sc (.int .u8 0)), .pv (.sc (.int .u8 0)), .pv (.sc (.int .u8 0)), .pv (.sc (.int .u8 0)), .pv (.sc (.int .u8 0)), .pv (.sc (.int .u8 0)), .pv (.sc (.int .u8 0)), .pv (.sc (.int .u8 0)), .pv (.sc (.int .u8 0)), .pv (.sc (.int .u8 0)), .pv (.sc (.int .u8 0)), .pv (.sc (.int .u8 0)), .pv (.sc (.int .u8 0)), .pv (.sc (.int .u8 0)), .pv (.sc (.int .u8 0)), .pv (.sc (.int .u8 0)), .pv (.sc (.int .u8 0)), .pv (.sc (.int .u8 0)), .pv (.sc (.int .u8 0)), .pv (.sc (.int .u8 0)), .pv (.sc (.int .u8 0)), .pv (.sc (.int .u8 0))]) := by kernel_rfl
@[simp] theorem pl168 : place? Tryz.prog 168 = some (fun i => some (i * 2, 2)) := by kernel_rfl
@[simp] theorem ag169 : isAgg? Tryz.prog 169 = some false := by kernel_rfl
@[simp] theorem sz169 : size? Tryz.prog 169 = some 1 := by kernel_rfl
@[simp] theorem el169 : elem? Tryz.prog 169 = none := by kernel_rfl
@[simp] theorem ar169 : array? Tryz.prog 169 = none := by kernel_rfl
@[simp] theorem st169 : isStr Tryz.prog 169 = false := by kernel_rfl
@[simp] theorem ifc169 : isIface Tryz.prog 169 = some false := by kernel_rfl
@[simp] theorem zr169 : zero? Tryz.prog 169 = some (.cell (.pv (.sc (.pointer none)))) := by kernel_rfl
@[simp] theorem ag186 : isAgg? Tryz.prog 186 = some false := by kernel_rfl
@[simp] theorem sz186 : size? Tryz.prog 186 = some 1 := by kernel_rfl
@[simp] theorem el186 : elem? Tryz.prog 186 = none := by kernel_rfl
@[simp] theorem ar186 : array? Tryz.prog 186 = none := by kernel_rfl
@[simp] theorem st186 : isStr Tryz.prog 186 = false := by kernel_rfl
@[simp] theorem ifc186 : isIface Tryz.prog 186 = some false := by kernel_rfl
@[simp] theorem zr186 : zero? Tryz.prog 186 = some (.cell (.pv (.sc (.int .i64 0)))) := by kernel_rfl
@[simp] theorem un186 : Program.underlying Tryz.prog 186 = some (.int .i64) := by kernel_rfl
@[simp] theorem ag189 : isAgg? Tryz.prog 189 = some false := by kernel_rfl
@[simp] theorem sz189 : size? Tryz.prog 189 = some 1 := by kernel_rfl
@[simp] theorem el189 : elem? Tryz.prog 189 = none := by kernel_rfl
@[simp] theorem ar189 : array? Tryz.prog 189 = none := by kernel_rfl
@[simp] theorem st189 : isStr Tryz.prog 189 = false := by kernel_rfl
@[simp] theorem ifc189 : isIface Tryz.prog 189 = some false := by kernel_rfl
@[simp] theorem zr189 : zero? Tryz.prog 189 = some (.cell (.pv (.sc (.pointer none)))) := by kernel_rfl
@[simp] theorem ag196 : isAgg? Tryz.prog 196 = some true := by kernel_rfl
@[simp] theorem sz196 : size? Tryz.prog 196 = some 3 := by kernel_rfl
@[simp] theorem el196 : elem? Tryz.prog 196 = none := by kernel_rfl
@[simp] theorem ar196 : array? Tryz.prog 196 = none := by kernel_rfl
@[simp] theorem st196 : isStr Tryz.prog 196 = false := by kernel_rfl
@[simp] theorem ifc196 : isIface Tryz.prog 196 = some false := by kernel_rfl
@[simp] theorem zr196 : zero? Tryz.prog 196 = some (.agg [.pv (.sc (.string ⟨#[]⟩)), .pv (.sc (.string ⟨#[]⟩)), .pv (.sc .nilIface)]) := by kernel_rfl
@[simp] theorem pl196 : place? Tryz.prog 196 = some (fun i => ([(0, 1), (1, 1), (2, 1)] : List (Nat × Nat))[i]?) := by kernel_rfl
@[simp] theorem ag198 : isAgg? Tryz.prog 198 = some true := by kernel_rfl
@[simp] theorem sz198 : size? Tryz.prog 198 = some 24 := by kernel_rfl
@[simp] theorem el198 : elem? Tryz.prog 198 = none := by kernel_rfl
@[simp] theorem ar198 : array? Tryz.prog 198 = some (24, 1, false) := by kernel_rfl
@[simp] theorem st198 : isStr Tryz.prog 198 = false := by kernel_rfl
@[simp] theorem ifc198 : isIface Tryz.prog 198 = some false := by kernel_rfl
@[simp] theorem zr198 : zero? Tryz.prog 198 = some (.agg [.pv (.sc (.int .u8 0)), .pv (.sc (.int .u8 0)), .pv (.sc (.int .u8 0)), .pv (.sc (.int .u8 0)), .pv (.sc (.int .u8 0)), .pv (.sc (.int .u8 0)), .pv (.sc (.int .u8 0)), .pv (.sc (.int .u8 0)), .pv (.sc (.int .u8 0)), .pv (.sc (.int .u8 0)), .pv (.sc (.int .u8 0)), .pv (.sc (.int .u8 0)), .pv (.sc (.int .u8 0)), .pv (.sc (.int .u8 0)), .pv (.sc (.int .u8 0)), .pv (.sc (.int .u8 0)), .pv (.sc (.int .u8 0)), .pv (.sc (.int .u8 0)), .pv (.sc (.int .u8 0)), .pv (.sc (.int .u8 0)), .pv (.sc (.int .u8 0)), .pv (.sc (.int .u8 0)), .pv (.sc (.int .u8 0)), .pv (.sc (.int .u8 0))]) := by kernel_rfl
@[simp] theorem pl198 : place? Tryz.prog 198 = some (fun i => some (i * 1, 1)) := by kernel_rfl
@[simp] theorem ag202 : isAgg? Tryz.prog 202 = some false := by kernel_rfl
@[simp] theorem sz202 : size? Tryz.prog 202 = some 1 := by kernel_rfl
@[simp] theorem el202 : elem? Tryz.prog 202 = none := by kernel_rfl
@[simp] theorem ar202 : array? Tryz.prog 202 = none := by kernel_rfl
@[simp] theorem st202 : isStr Tryz.prog 202 = false := by kernel_rfl
@[simp] theorem ifc202 : isIface Tryz.prog 202 = some false := by kernel_rfl
@[simp] theorem zr202 : zero? Tryz.prog 202 = some (.cell (.pv (.sc (.pointer none)))) := by kernel_rfl
@[simp] theorem ag204 : isAgg? Tryz.prog 204 = some true := by kernel_rfl
@[simp] theorem sz204 : size? Tryz.prog 204 = some 1 := by kernel_rfl
@[simp] theorem el204 : elem? Tryz.prog 204 = none := by kernel_rfl
@[simp] theorem ar204 : array? Tryz.prog 204 = none := by kernel_rfl
@[simp] theorem st204 : isStr Tryz.prog 204 = false := by kernel_rfl
@[simp] theorem ifc204 : isIface Tryz.prog 204 = some false := by kernel_rfl
@[simp] theorem zr204 : zero? Tryz.prog 204 = some (.agg [.pv (.sc (.string ⟨#[]⟩))]) := by kernel_rfl
@[simp] theorem pl204 : place? Tryz.prog 204 = some (fun i => ([(0, 1)] : List (Nat × Nat))[i]?) := by kernel_rfl
@[simp] theorem ag206 : isAgg? Tryz.prog 206 = some true := by kernel_rfl
@[simp] theorem sz206 : size? Tryz.prog 206 = some 20 := by kernel_rfl
@[simp] theorem el206 : elem? Tryz.prog 206 = none := by kernel_rfl
@[simp] theorem ar206 : array? Tryz.prog 206 = some (20, 1, false) := by kernel_rfl
@[simp] theorem st206 : isStr Tryz.prog 206 = false := by kernel_rfl
@[simp] theorem ifc206 : isIface Tryz.prog 206 = some false := by kernel_rfl
@[simp] theorem zr206 : zero? Tryz.prog 206 = some (.agg [.pv (.sc (.int .u64 0)), .pv (.sc (.int .u64 0)), .pv (.sc (.int .u64 0)), .pv (.sc (.int .u64 0)), .pv (.sc (.int .u64 0)), .pv (.sc (.int .u64 0)), .pv (.sc (.int .u64 0)), .pv (.sc (.int .u64 0)), .pv (.sc (.int .u64 0)), .pv (.sc (.int .u64 0)), .pv (.sc (.int .u64 0)), .pv (.sc (.int .u64 0)), .pv (.sc (.int .u64 0)), .pv (.sc (.int .u64 0)), .pv (.sc (.int .u64 0)), .pv (.sc (.int .u64 0)), .pv (.sc (.int .u64 0)), .pv (.sc (.int .u64 0)), .pv (.sc (.int .u64 0)), .pv (.sc (.int .u64 0))]) := by kernel_rfl
@[simp] theorem pl206 : place? Tryz.prog 206 = some (fun i => some (i * 1, 1)) := by kernel_rfl
@[simp] theorem ag207 : isAgg? Tryz.prog 207 = some true := by kernel_rfl
@[simp] theorem sz207 : size? Tryz.prog 207 = some 65 := by kernel_rfl
@[simp] theorem el207 : elem? Tryz.prog 207 = none := by kernel_rfl
@[simp] theorem ar207 : array? Tryz.prog 207 = some (65, 1, false) := by kernel_rfl
@[simp] theorem st207 : isStr Tryz.prog 207 = false := by kernel_rfl
@[simp] theorem ifc207 : isIface Tryz.prog 207 = some false := by kernel_rfl
@[simp] theorem pl207 : place? Tryz.prog 207 = some (fun i => some (i * 1, 1)) := by kernel_rfl
@[simp] theorem ag208 : isAgg? Tryz.prog 208 = some true := by kernel_rfl
@[simp] theorem sz208 : size? Tryz.prog 208 = some 32 := by kernel_rfl
@[simp] theorem el208 : elem? Tryz.prog 208 = none := by kernel_rfl
@[simp] theorem ar208 : array? Tryz.prog 208 = some (32, 1, false) := by kernel_rfl
@[simp] theorem st208 : isStr Tryz.prog 208 = false := by kernel_rfl
@[simp] theorem ifc208 : isIface Tryz.prog 208 = some false := by kernel_rfl
@[simp] theorem zr208 : zero? Tryz.prog 208 = some (.agg [.pv (.sc (.int .u8 0)), .pv (.sc (.int .u8 0)), .pv (.sc (.int .u8 0)), .pv (.sc (.int .u8 0)), .pv (.sc (.int .u8 0)), .pv (.sc (.int .u8 0)), .pv (.sc (.int .u8 0)), .pv (.sc (.int .u8 0)), .pv (.sc (.int .u8 0)), .pv (.sc (.int .u8 0)), .pv (.sc (.int .u8 0)), .pv (.sc (.int .u8 0)), .pv (.sc (.int .u8 0)), .pv (.sc (.int .u8 0)), .pv (.sc (.int .u8 0)), .pv (.sc (.int .u8 0)), .pv (.sc (.int .u8 0)), .pv (.sc (.int .u8 0)), .pv (.sc (.int .u8 0)), .pv (.sc (.int .u8 0)), .pv (.sc (.int .u8 0)), .pv (.sc (.int .u8 0)), .pv (.sc (.int .u8 0)), .pv (.sc (.int .u8 0)), .pv (.sc (.int .u8 0)), .pv (.sc (.int .u8 0)), .pv (.sc (.int .u8 0)), .pv (.sc (.int .u8 0)), .pv (.sc (.int .u8 0)), .pv (.sc (.int .u8 0)), .pv (.sc (.int .u8 0)), .pv (.sc (.int .u8 0))]) := by kernel_rfl
@[simp] theorem pl208 : place? Tryz.prog 208 = some (fun i => some (i * 1, 1)) := by kernel_rfl
@[simp] theorem ag209 : isAgg? Tryz.prog 209 = some true := by kernel_rfl
@[simp] theorem sz209 : size? Tryz.prog 209 = some 64 := by kernel_rfl
@[simp] theorem el209 : elem? Tryz.prog 209 = none := by kernel_rfl
@[simp] theorem ar209 : array? Tryz.prog 209 = some (64, 1, false) := by kernel_rfl
@[simp] theorem st209 : isStr Tryz.prog 209 = false := by kernel_rfl
@[simp] theorem ifc209 : isIface Tryz.prog 209 = some false := by kernel_rfl
@[simp] theorem pl209 : place? Tryz.prog 209 = some (fun i => some (i * 1, 1)) := by kernel_rfl
@[simp] theorem fd29_0 : field? Tryz.prog 29 0 = some (0, 1, false) := by kernel_rfl
@[simp] theorem fd29_1 : field? Tryz.prog 29 1 = some (1, 1, false) := by kernel_rfl
@[simp] theorem fd29_2 : field? Tryz.prog 29 2 = some (2, 1, false) := by kernel_rfl
@[simp] theorem fd29_3 : field? Tryz.prog 29 3 = some (3, 1, false) := by kernel_rfl
@[simp] theorem fd35_0 : field? Tryz.prog 35 0 = some (0, 1, false) := by kernel_rfl
@[simp] theorem fd35_1 : field? Tryz.prog 35 1 = some (1, 1, false) := by kernel_rfl
@[simp] theorem fd35_2 : field? Tryz.prog 35 2 = some (2, 1, false) := by kernel_rfl
@[simp] theorem fd35_3 : field? Tryz.prog 35 3 = some (3, 1, false) := by kernel_rfl
@[simp] theorem fd35_4 : field? Tryz.prog 35 4 = some (4, 1, false) := by kernel_rfl
@[simp] theorem fd83_0 : field? Tryz.prog 83 0 = some (0, 1, false) := by kernel_rfl
@[simp] theorem fd83_1 : field? Tryz.prog 83 1 = some (1, 1, false) := by kernel_rfl
@[simp] theorem fd83_2 : field? Tryz.prog 83 2 = some (2, 1, false) := by kernel_rfl
@[simp] theorem fd117_0 : field? Tryz.prog 117 0 = some (0, 1, false) := by kernel_rfl
@[simp] theorem fd117_1 : field? Tryz.prog 117 1 = some (1, 1, false) := by kernel_rfl
@[simp] theorem fd167_0 : field? Tryz.prog 167 0 = some (0, 1, false) := by kernel_rfl
@[simp] theorem fd167_1 : field? Tryz.prog 167 1 = some (1, 1, false) := by kernel_rfl
@[simp] theorem en3 : enters Tryz.prog 3 = true := by kernel_rfl
@[simp] theorem en4 : enters Tryz.prog 4 = true := by kernel_rfl
@[simp] theorem en5 : enters Tryz.prog 5 = true := by kernel_rfl
@[simp] theorem en6 : enters Tryz.prog 6 = true := by kernel_rfl
@[simp] theorem en7 : enters Tryz.prog 7 = true := by kernel_rfl
@[simp] theorem en8 : enters Tryz.prog 8 = true := by kernel_rfl
@[simp] theorem en9 : enters Tryz.prog 9 = true := by kernel_rfl
@[simp] theorem en10 : enters Tryz.prog 10 = true := by kernel_rfl
@[simp] theorem en11 : enters Tryz.prog 11 = true := by kernel_rfl
@[simp] theorem en12 : enters Tryz.prog 12 = true := by kernel_rfl
@[simp] theorem en13 : enters Tryz.prog 13 = true := by kernel_rfl
@[simp] theorem en14 : enters Tryz.prog 14 = true := by kernel_rfl
@[simp] theorem en15 : enters Tryz.prog 15 = true := by kernel_rfl
@[simp] theorem en16 : enters Tryz.prog 16 = true := by kernel_rfl
@[simp] theorem en17 : enters Tryz.prog 17 = true := by kernel_rfl
@[simp] theorem en18 : enters Tryz.prog 18 = true := by kernel_rfl
@[simp] theorem en19 : enters Tryz.prog 19 = true := by kernel_rfl
@[simp] theorem en20 : enters Tryz.prog 20 = true := by kernel_rfl
@[simp] theorem en21 : enters Tryz.prog 21 = true := by kernel_rfl
@[simp] theorem en22 : enters Tryz.prog 22 = true := by kernel_rfl
@[simp] theorem en23 : enters Tryz.prog 23 = true := by kernel_rfl
@[simp] theorem en24 : enters Tryz.prog 24 = true := by kernel_rfl
@[simp] theorem en25 : enters Tryz.prog 25 = true := by kernel_rfl
@[simp] theorem en26 : enters Tryz.prog 26 = true := by kernel_rfl
@[simp] theorem en27 : enters Tryz.prog 27 = true := by kernel_rfl
@[simp] theorem en28 : enters Tryz.prog 28 = true := by kernel_rfl
@[simp] theorem en29 : enters Tryz.prog 29 = true := by kernel_rfl
@[simp] theorem en30 : enters Tryz.prog 30 = true := by kernel_rfl
@[simp] theorem en31 : enters Tryz.prog 31 = true := by kernel_rfl
@[simp] theorem en32 : enters Tryz.prog 32 = true := by kernel_rfl
@[simp] theorem en33 : enters Tryz.prog 33 = true := by kernel_rfl
@[simp] theorem en34 : enters Tryz.prog 34 = true := by kernel_rfl
@[simp] theorem en35 : enters Tryz.prog 35 = true := by kernel_rfl
@[simp] theorem en36 : enters Tryz.prog 36 = true := by kernel_rfl
@[simp] theorem en37 : enters Tryz.prog 37 = true := by kernel_rfl
@[simp] theorem en38 : enters Tryz.prog 38 = true := by kernel_rfl
@[simp] theorem en39 : enters Tryz.prog 39 = true := by kernel_rfl
@[simp] theorem en40 : enters Tryz.prog 40 = true := by kernel_rfl
@[simp] theorem en41 : enters Tryz.prog 41 = true := by kernel_rfl
@[simp] theorem en42 : enters Tryz.prog 42 = true := by kernel_rfl
@[simp] theorem en43 : enters Tryz.prog 43 = true := by kernel_rfl
@[simp] theorem en44 : enters Tryz.prog 44 = true := by kernel_rfl
@[simp] theorem en45 : enters Tryz.prog 45 = true := by kernel_rfl
@[simp] theorem en46 : enters Tryz.prog 46 = true := by kernel_rfl
@[simp] theorem en47 : enters Tryz.prog 47 = true := by kernel_rfl
@[simp] theorem en48 : enters Tryz.prog 48 = true := by kernel_rfl
@[simp] theorem en49 : enters Tryz.prog 49 = true := by kernel_rfl
@[simp] theorem en50 : enters Tryz.prog 50 = true := by kernel_rfl
@[simp] theorem en51 : enters Tryz.prog 51 = true := by kernel_rfl
@[simp] theorem en52 : enters Tryz.prog 52 = true := by kernel_rfl
@[simp] theorem en53 : enters Tryz.prog 53 = true := by kernel_rfl
@[simp] theorem en54 : enters Tryz.prog 54 = true := by kernel_rfl
@[simp] theorem en55 : enters Tryz.prog 55 = true := by kernel_rfl
@[simp] theorem en56 : enters Tryz.prog 56 = true := by kernel_rfl
@[simp] theorem en57 : enters Tryz.prog 57 = true := by kernel_rfl
@[simp] theorem en58 : enters Tryz.prog 58 = true := by kernel_rfl
@[simp] theorem en59 : enters Tryz.prog 59 = true := by kernel_rfl
@[simp] theorem en60 : enters Tryz.prog 60 = true := by kernel_rfl
@[simp] theorem en61 : enters Tryz.prog 61 = true := by kernel_rfl
@[simp] theorem en62 : enters Tryz.prog 62 = true := by kernel_rfl
@[simp] theorem en63 : enters Tryz.prog 63 = true := by kernel_rfl
@[simp] theorem en64 : enters Tryz.prog 64 = true := by kernel_rfl
@[simp] theorem en65 : enters Tryz.prog 65 = true := by kernel_rfl
@[simp] theorem en66 : enters Tryz.prog 66 = true := by kernel_rfl
@[simp] theorem en67 : enters Tryz.prog 67 = true := by kernel_rfl
@[simp] theorem en68 : enters Tryz.prog 68 = true := by kernel_rfl
@[simp] theorem en69 : enters Tryz.prog 69 = true := by kernel_rfl
@[simp] theorem en70 : enters Tryz.prog 70 = true := by kernel_rfl
@[simp] theorem en71 : enters Tryz.prog 71 = true := by kernel_rfl
@[simp] theorem en72 : enters Tryz.prog 72 = true := by kernel_rfl
@[simp] theorem en73 : enters Tryz.prog 73 = true := by kernel_rfl
@[simp] theorem en74 : enters Tryz.prog 74 = true := by kernel_rfl
@[simp] theorem en75 : enters Tryz.prog 75 = true := by kernel_rfl
@[simp] theorem en76 : enters Tryz.prog 76 = true := by kernel_rfl
@[simp] theorem en77 : enters Tryz.prog 77 = true := by kernel_rfl
@[simp] theorem en78 : enters Tryz.prog 78 = true := by kernel_rfl
@[simp] theorem en79 : enters Tryz.prog 79 = true := by kernel_rfl
@[simp] theorem en80 : enters Tryz.prog 80 = true := by kernel_rfl
@[simp] theorem en81 : enters Tryz.prog 81 = true := by kernel_rfl
@[simp] theorem en82 : enters Tryz.prog 82 = true := by kernel_rfl
@[simp] theorem en83 : enters Tryz.prog 83 = true := by kernel_rfl
@[simp] theorem en84 : enters Tryz.prog 84 = true := by kernel_rfl
@[simp] theorem en85 : enters Tryz.prog 85 = true := by kernel_rfl
@[simp] theorem en86 : enters Tryz.prog 86 = true := by kernel_rfl
@[simp] theorem en87 : enters Tryz.prog 87 = true := by kernel_rfl
@[simp] theorem en88 : enters Tryz.prog 88 = true := by kernel_rfl
@[simp] theorem en89 : enters Tryz.prog 89 = true := by kernel_rfl
@[simp] theorem en90 : enters Tryz.prog 90 = true := by kernel_rfl
@[simp] theorem en91 : enters Tryz.prog 91 = true := by kernel_rfl
@[simp] theorem en92 : enters Tryz.prog 92 = true := by kernel_rfl
@[simp] theorem en93 : enters Tryz.prog 93 = true := by kernel_rfl
@[simp] theorem en94 : enters Tryz.prog 94 = true := by kernel_rfl
@[simp] theorem en95 : enters Tryz.prog 95 = true := by kernel_rfl
@[simp] theorem en96 : enters Tryz.prog 96 = true := by kernel_rfl
@[simp] theorem en97 : enters Tryz.prog 97 = true := by kernel_rfl
@[simp] theorem en98 : enters Tryz.prog 98 = true := by kernel_rfl
@[simp] theorem en99 : enters Tryz.prog 99 = true := by kernel_rfl
@[simp] theorem en100 : enters Tryz.prog 100 = true := by kernel_rfl
@[simp] theorem en101 : enters Tryz.prog 101 = true := by kernel_rfl
@[simp] theorem en102 : enters Tryz.prog 102 = true := by kernel_rfl
@[simp] theorem en103 : enters Tryz.prog 103 = true := by kernel_rfl
@[simp] theorem en104 : enters Tryz.prog 104 = true := by kernel_rfl
@[simp] theorem en105 : enters Tryz.prog 105 = true := by kernel_rfl
@[simp] theorem en106 : enters Tryz.prog 106 = true := by kernel_rfl
@[simp] theorem en107 : enters Tryz.prog 107 = true := by kernel_rfl
@[simp] theorem en108 : enters Tryz.prog 108 = true := by kernel_rfl
@[simp] theorem en109 : enters Tryz.prog 109 = true := by kernel_rfl
@[simp] theorem en110 : enters Tryz.prog 110 = true := by kernel_rfl
@[simp] theorem en111 : enters Tryz.prog 111 = true := by kernel_rfl
@[simp] theorem en112 : enters Tryz.prog 112 = true := by kernel_rfl
@[simp] theorem en113 : enters Tryz.prog 113 = true := by kernel_rfl
@[simp] theorem en114 : enters Tryz.prog 114 = true := by kernel_rfl
@[simp] theorem en115 : enters Tryz.prog 115 = true := by kernel_rfl
@[simp] theorem en116 : enters Tryz.prog 116 = true := by kernel_rfl
@[simp] theorem en117 : enters Tryz.prog 117 = true := by kernel_rfl
@[simp] theorem en118 : enters Tryz.prog 118 = true := by kernel_rfl
@[simp] theorem en119 : enters Tryz.prog 119 = true := by kernel_rfl
@[simp] theorem en120 : enters Tryz.prog 120 = true := by kernel_rfl
@[simp] theorem en121 : enters Tryz.prog 121 = true := by kernel_rfl
@[simp] theorem en122 : enters Tryz.prog 122 = true := by kernel_rfl
@[simp] theorem en123 : enters Tryz.prog 123 = true := by kernel_rfl
@[simp] theorem en124 : enters Tryz.prog 124 = true := by kernel_rfl
@[simp] theorem en125 : enters Tryz.prog 125 = true := by kernel_rfl
@[simp] theorem en126 : enters Tryz.prog 126 = true := by kernel_rfl
@[simp] theorem en127 : enters Tryz.prog 127 = true := by kernel_rfl
@[simp] theorem en128 : enters Tryz.prog 128 = true := by kernel_rfl
@[simp] theorem en129 : enters Tryz.prog 129 = true := by kernel_rfl
@[simp] theorem en130 : enters Tryz.prog 130 = true := by kernel_rfl
@[simp] theorem en131 : enters Tryz.prog 131 = true := by kernel_rfl
@[simp] theorem en132 : enters Tryz.prog 132 = true := by kernel_rfl
@[simp] theorem en133 : enters Tryz.prog 133 = true := by kernel_rfl
@[simp] theorem en134 : enters Tryz.prog 134 = true := by kernel_rfl
@[simp] theorem en135 : enters Tryz.prog 135 = true := by kernel_rfl
@[simp] theorem en136 : enters Tryz.prog 136 = true := by kernel_rfl
@[simp] theorem en137 : enters Tryz.prog 137 = true := by kernel_rfl
@[simp] theorem en138 : enters Tryz.prog 138 = true := by kernel_rfl
@[simp] theorem en139 : enters Tryz.prog 139 = true := by kernel_rfl
@[simp] theorem en140 : enters Tryz.prog 140 = true := by kernel_rfl
@[simp] theorem en141 : enters Tryz.prog 141 = true := by kernel_rfl
@[simp] theorem en142 : enters Tryz.prog 142 = true := by kernel_rfl
@[simp] theorem en143 : enters Tryz.prog 143 = true := by kernel_rfl
@[simp] theorem en144 : enters Tryz.prog 144 = true := by kernel_rfl
@[simp] theorem en145 : enters Tryz.prog 145 = true := by kernel_rfl
@[simp] theorem en146 : enters Tryz.prog 146 = true := by kernel_rfl
@[simp] theorem en147 : enters Tryz.prog 147 = true := by kernel_rfl
@[simp] theorem en148 : enters Tryz.prog 148 = true := by kernel_rfl
@[simp] theorem en149 : enters Tryz.prog 149 = true := by kernel_rfl
@[simp] theorem en150 : enters Tryz.prog 150 = true := by kernel_rfl
@[simp] theorem en151 : enters Tryz.prog 151 = true := by kernel_rfl
@[simp] theorem en152 : enters Tryz.prog 152 = true := by kernel_rfl
@[simp] theorem en153 : enters Tryz.prog 153 = true := by kernel_rfl
@[simp] theorem en154 : enters Tryz.prog 154 = true := by kernel_rfl
@[simp] theorem en155 : enters Tryz.prog 155 = true := by kernel_rfl
@[simp] theorem en157 : enters Tryz.prog 157 = true := by kernel_rfl
@[simp] theorem en158 : enters Tryz.prog 158 = true := by kernel_rfl
@[simp] theorem en159 : enters Tryz.prog 159 = true := by kernel_rfl
@[simp] theorem en160 : enters Tryz.prog 160 = true := by kernel_rfl
@[simp] theorem en161 : enters Tryz.prog 161 = true := by kernel_rfl
@[simp] theorem en162 : enters Tryz.prog 162 = true := by kernel_rfl
@[simp] theorem en163 : enters Tryz.prog 163 = true := by kernel_rfl
@[simp] theorem en164 : enters Tryz.prog 164 = true := by kernel_rfl
@[simp] theorem en168 : enters Tryz.prog 168 = true := by kernel_rfl
@[simp] theorem en169 : enters Tryz.prog 169 = true := by kernel_rfl
@[simp] theorem en170 : enters Tryz.prog 170 = true := by kernel_rfl
@[simp] theorem en171 : enters Tryz.prog 171 = true := by kernel_rfl
@[simp] theorem en173 : enters Tryz.prog 173 = true := by kernel_rfl
@[simp] theorem en174 : enters Tryz.prog 174 = true := by kernel_rfl
@[simp] theorem en175 : enters Tryz.prog 175 = true := by kernel_rfl
@[simp] theorem en176 : enters Tryz.prog 176 = true := by kernel_rfl
@[simp] theorem en177 : enters Tryz.prog 177 = true := by kernel_rfl
@[simp] theorem en178 : enters Tryz.prog 178 = true := by kernel_rfl
@[simp] theorem en179 : enters Tryz.prog 179 = true := by kernel_rfl
@[simp] theorem en180 : enters Tryz.prog 180 = true := by kernel_rfl
@[simp] theorem en181 : enters Tryz.prog 181 = true := by kernel_rfl
@[simp] theorem en182 : enters Tryz.prog 182 = true := by kernel_rfl
@[simp] theorem en183 : enters Tryz.prog 183 = true := by kernel_rfl
@[simp] theorem en184 : enters Tryz.prog 184 = true := by kernel_rfl
@[simp] theorem en185 : enters Tryz.prog 185 = true := by kernel_rfl
@[simp] theorem en186 : enters Tryz.prog 186 = true := by kernel_rfl
@[simp] theorem en188 : enters Tryz.prog 188 = true := by kernel_rfl
@[simp] theorem en189 : enters Tryz.prog 189 = true := by kernel_rfl
@[simp] theorem en190 : enters Tryz.prog 190 = true := by kernel_rfl
@[simp] theorem en191 : enters Tryz.prog 191 = true := by kernel_rfl
@[simp] theorem en192 : enters Tryz.prog 192 = true := by kernel_rfl
@[simp] theorem en193 : enters Tryz.prog 193 = true := by kernel_rfl
@[simp] theorem en194 : enters Tryz.prog 194 = true := by kernel_rfl
@[simp] theorem en195 : enters Tryz.prog 195 = true := by kernel_rfl
@[simp] theorem en196 : enters Tryz.prog 196 = true := by kernel_rfl
@[simp] theorem en197 : enters Tryz.prog 197 = true := by kernel_rfl
@[simp] theorem en198 : enters Tryz.prog 198 = true := by kernel_rfl
@[simp] theorem en199 : enters Tryz.prog 199 = true := by kernel_rfl
@[simp] theorem en200 : enters Tryz.prog 200 = true := by kernel_rfl
@[simp] theorem en201 : enters Tryz.prog 201 = true := by kernel_rfl
@[simp] theorem en202 : enters Tryz.prog 202 = true := by kernel_rfl
@[simp] theorem en203 : enters Tryz.prog 203 = true := by kernel_rfl
@[simp] theorem en204 : enters Tryz.prog 204 = true := by kernel_rfl
@[simp] theorem en205 : enters Tryz.prog 205 = true := by kernel_rfl
@[simp] theorem en206 : enters Tryz.prog 206 = true := by kernel_rfl
@[simp] theorem en207 : enters Tryz.prog 207 = true := by kernel_rfl
@[simp] theorem en208 : enters Tryz.prog 208 = true := by kernel_rfl
theorem mixed : Tryz.prog.follows .mixedOrders = true := by kernel_rfl
end Abs
end Go.Proofs.YtoelojmcopcpcaaGreatDoor
