/-
  What the evaluator asks of the program's types.
-/
import Derived.Test.YtkmhhboihgckcaaDoorAbsT
import Derived.Test.YtkmhhboihgckcaaDoorProg
import Derived.KernelRfl
namespace Go.Proofs.YtkmhhboihgckcaaDoor
namespace Abs
@[simp] theorem ag2 : isAgg? Tryd.prog 2 = some false := by kernel_rfl
@[simp] theorem sz2 : size? Tryd.prog 2 = some 1 := by kernel_rfl
@[simp] theorem el2 : elem? Tryd.prog 2 = none := by kernel_rfl
@[simp] theorem ar2 : array? Tryd.prog 2 = none := by kernel_rfl
@[simp] theorem st2 : isStr Tryd.prog 2 = false := by kernel_rfl
@[simp] theorem ifc2 : isIface Tryd.prog 2 = some false := by kernel_rfl
@[simp] theorem zr2 : zero? Tryd.prog 2 = some (.cell (.pv (.sc (.int .i64 0)))) := by kernel_rfl
@[simp] theorem un2 : Program.underlying Tryd.prog 2 = some (.int .i64) := by kernel_rfl
@[simp] theorem ag3 : isAgg? Tryd.prog 3 = some false := by kernel_rfl
@[simp] theorem sz3 : size? Tryd.prog 3 = some 1 := by kernel_rfl
@[simp] theorem el3 : elem? Tryd.prog 3 = none := by kernel_rfl
@[simp] theorem ar3 : array? Tryd.prog 3 = none := by kernel_rfl
@[simp] theorem st3 : isStr Tryd.prog 3 = false := by kernel_rfl
@[simp] theorem ifc3 : isIface Tryd.prog 3 = some false := by kernel_rfl
@[simp] theorem zr3 : zero? Tryd.prog 3 = some (.cell (.pv (.sc (.int .i64 0)))) := by kernel_rfl
@[simp] theorem un3 : Program.underlying Tryd.prog 3 = some (.int .i64) := by kernel_rfl
@[simp] theorem ag4 : isAgg? Tryd.prog 4 = some false := by kernel_rfl
@[simp] theorem sz4 : size? Tryd.prog 4 = some 1 := by kernel_rfl
@[simp] theorem el4 : elem? Tryd.prog 4 = none := by kernel_rfl
@[simp] theorem ar4 : array? Tryd.prog 4 = none := by kernel_rfl
@[simp] theorem st4 : isStr Tryd.prog 4 = false := by kernel_rfl
@[simp] theorem ifc4 : isIface Tryd.prog 4 = some false := by kernel_rfl
@[simp] theorem zr4 : zero? Tryd.prog 4 = some (.cell (.pv (.sc (.bool false)))) := by kernel_rfl
@[simp] theorem un4 : Program.underlying Tryd.prog 4 = some .bool := by kernel_rfl
@[simp] theorem ag5 : isAgg? Tryd.prog 5 = some false := by kernel_rfl
@[simp] theorem sz5 : size? Tryd.prog 5 = some 1 := by kernel_rfl
@[simp] theorem el5 : elem? Tryd.prog 5 = none := by kernel_rfl
@[simp] theorem ar5 : array? Tryd.prog 5 = none := by kernel_rfl
@[simp] theorem st5 : isStr Tryd.prog 5 = false := by kernel_rfl
@[simp] theorem ifc5 : isIface Tryd.prog 5 = some false := by kernel_rfl
@[simp] theorem zr5 : zero? Tryd.prog 5 = some (.cell (.pv (.sc (.int .u8 0)))) := by kernel_rfl
@[simp] theorem un5 : Program.underlying Tryd.prog 5 = some (.int .u8) := by kernel_rfl
@[simp] theorem ag9 : isAgg? Tryd.prog 9 = some false := by kernel_rfl
@[simp] theorem sz9 : size? Tryd.prog 9 = some 1 := by kernel_rfl
@[simp] theorem el9 : elem? Tryd.prog 9 = none := by kernel_rfl
@[simp] theorem ar9 : array? Tryd.prog 9 = none := by kernel_rfl
@[simp] theorem st9 : isStr Tryd.prog 9 = true := by kernel_rfl
@[simp] theorem ifc9 : isIface Tryd.prog 9 = some false := by kernel_rfl
@[simp] theorem zr9 : zero? Tryd.prog 9 = some (.cell (.pv (.sc (.string ⟨#[]⟩)))) := by kernel_rfl
@[simp] theorem un9 : Program.underlying Tryd.prog 9 = some .string := by kernel_rfl
@[simp] theorem ag12 : isAgg? Tryd.prog 12 = some false := by kernel_rfl
@[simp] theorem sz12 : size? Tryd.prog 12 = some 1 := by kernel_rfl
@[simp] theorem el12 : elem? Tryd.prog 12 = none := by kernel_rfl
@[simp] theorem ar12 : array? Tryd.prog 12 = none := by kernel_rfl
@[simp] theorem st12 : isStr Tryd.prog 12 = false := by kernel_rfl
@[simp] theorem ifc12 : isIface Tryd.prog 12 = some false := by kernel_rfl
@[simp] theorem zr12 : zero? Tryd.prog 12 = some (.cell (.pv (.sc (.int .u64 0)))) := by kernel_rfl
@[simp] theorem un12 : Program.underlying Tryd.prog 12 = some (.int .u64) := by kernel_rfl
@[simp] theorem ag21 : isAgg? Tryd.prog 21 = some false := by kernel_rfl
@[simp] theorem sz21 : size? Tryd.prog 21 = some 1 := by kernel_rfl
@[simp] theorem el21 : elem? Tryd.prog 21 = none := by kernel_rfl
@[simp] theorem ar21 : array? Tryd.prog 21 = none := by kernel_rfl
@[simp] theorem st21 : isStr Tryd.prog 21 = false := by kernel_rfl
@[simp] theorem ifc21 : isIface Tryd.prog 21 = some false := by kernel_rfl
@[simp] theorem zr21 : zero? Tryd.prog 21 = some (.cell (.pv (.sc (.int .i32 0)))) := by kernel_rfl
@[simp] theorem un21 : Program.underlying Tryd.prog 21 = some (.int .i32) := by kernel_rfl
@[simp] theorem ag22 : isAgg? Tryd.prog 22 = some false := by kernel_rfl
@[simp] theorem sz22 : size? Tryd.prog 22 = some 1 := by kernel_rfl
@[simp] theorem el22 : elem? Tryd.prog 22 = none := by kernel_rfl
@[simp] theorem ar22 : array? Tryd.prog 22 = none := by kernel_rfl
@[simp] theorem st22 : isStr Tryd.prog 22 = false := by kernel_rfl
@[simp] theorem ifc22 : isIface Tryd.prog 22 = some false := by kernel_rfl
@[simp] theorem zr22 : zero? Tryd.prog 22 = some (.cell (.pv (.sc (.int .i64 0)))) := by kernel_rfl
@[simp] theorem un22 : Program.underlying Tryd.prog 22 = some (.int .i64) := by kernel_rfl
@[simp] theorem ag23 : isAgg? Tryd.prog 23 = some false := by kernel_rfl
@[simp] theorem sz23 : size? Tryd.prog 23 = some 1 := by kernel_rfl
@[simp] theorem el23 : elem? Tryd.prog 23 = some (26, 5, 80) := by kernel_rfl
@[simp] theorem ar23 : array? Tryd.prog 23 = none := by kernel_rfl
@[simp] theorem st23 : isStr Tryd.prog 23 = false := by kernel_rfl
@[simp] theorem ifc23 : isIface Tryd.prog 23 = some false := by kernel_rfl
@[simp] theorem zr23 : zero? Tryd.prog 23 = some (.cell (.pv (.sc (.slice none 0 0)))) := by kernel_rfl
@[simp] theorem un23 : Program.underlying Tryd.prog 23 = some (.slice 26) := by kernel_rfl
@[simp] theorem ag24 : isAgg? Tryd.prog 24 = some false := by kernel_rfl
@[simp] theorem sz24 : size? Tryd.prog 24 = some 1 := by kernel_rfl
@[simp] theorem el24 : elem? Tryd.prog 24 = some (9, 1, 16) := by kernel_rfl
@[simp] theorem ar24 : array? Tryd.prog 24 = none := by kernel_rfl
@[simp] theorem st24 : isStr Tryd.prog 24 = false := by kernel_rfl
@[simp] theorem ifc24 : isIface Tryd.prog 24 = some false := by kernel_rfl
@[simp] theorem zr24 : zero? Tryd.prog 24 = some (.cell (.pv (.sc (.slice none 0 0)))) := by kernel_rfl
@[simp] theorem un24 : Program.underlying Tryd.prog 24 = some (.slice 9) := by kernel_rfl
@[simp] theorem ag26 : isAgg? Tryd.prog 26 = some true := by kernel_rfl
@[simp] theorem sz26 : size? Tryd.prog 26 = some 5 := by kernel_rfl
@[simp] theorem el26 : elem? Tryd.prog 26 = none := by kernel_rfl
@[simp] theorem ar26 : array? Tryd.prog 26 = none := by kernel_rfl
@[simp] theorem st26 : isStr Tryd.prog 26 = false := by kernel_rfl
@[simp] theorem ifc26 : isIface Tryd.prog 26 = some false := by kernel_rfl
@[simp] theorem zr26 : zero? Tryd.prog 26 = some (.agg [.pv (.sc (.int .i64 0)), .pv (.sc (.int .i64 0)), .pv (.sc (.string ⟨#[]⟩)), .pv (.sc (.slice none 0 0)), .pv (.sc (.slice none 0 0))]) := by kernel_rfl
@[simp] theorem pl26 : place? Tryd.prog 26 = some (fun i => ([(0, 1), (1, 1), (2, 1), (3, 1), (4, 1)] : List (Nat × Nat))[i]?) := by kernel_rfl
@[simp] theorem ag27 : isAgg? Tryd.prog 27 = some false := by kernel_rfl
@[simp] theorem sz27 : size? Tryd.prog 27 = some 1 := by kernel_rfl
@[simp] theorem el27 : elem? Tryd.prog 27 = none := by kernel_rfl
@[simp] theorem ar27 : array? Tryd.prog 27 = none := by kernel_rfl
@[simp] theorem st27 : isStr Tryd.prog 27 = false := by kernel_rfl
@[simp] theorem ifc27 : isIface Tryd.prog 27 = some false := by kernel_rfl
@[simp] theorem zr27 : zero? Tryd.prog 27 = some (.cell (.pv (.sc (.int .i64 0)))) := by kernel_rfl
@[simp] theorem un27 : Program.underlying Tryd.prog 27 = some (.int .i64) := by kernel_rfl
@[simp] theorem ag28 : isAgg? Tryd.prog 28 = some false := by kernel_rfl
@[simp] theorem sz28 : size? Tryd.prog 28 = some 1 := by kernel_rfl
@[simp] theorem el28 : elem? Tryd.prog 28 = some (30, 3, 56) := by kernel_rfl
@[simp] theorem ar28 : array? Tryd.prog 28 = none := by kernel_rfl
@[simp] theorem st28 : isStr Tryd.prog 28 = false := by kernel_rfl
@[simp] theorem ifc28 : isIface Tryd.prog 28 = some false := by kernel_rfl
@[simp] theorem zr28 : zero? Tryd.prog 28 = some (.cell (.pv (.sc (.slice none 0 0)))) := by kernel_rfl
@[simp] theorem un28 : Program.underlying Tryd.prog 28 = some (.slice 30) := by kernel_rfl
@[simp] theorem ag30 : isAgg? Tryd.prog 30 = some true := by kernel_rfl
@[simp] theorem sz30 : size? Tryd.prog 30 = some 3 := by kernel_rfl
@[simp] theorem el30 : elem? Tryd.prog 30 = none := by kernel_rfl
@[simp] theorem ar30 : array? Tryd.prog 30 = none := by kernel_rfl
@[simp] theorem st30 : isStr Tryd.prog 30 = false := by kernel_rfl
@[simp] theorem ifc30 : isIface Tryd.prog 30 = some false := by kernel_rfl
@[simp] theorem zr30 : zero? Tryd.prog 30 = some (.agg [.pv (.sc (.int .i64 0)), .pv (.sc (.slice none 0 0)), .pv (.sc (.slice none 0 0))]) := by kernel_rfl
@[simp] theorem pl30 : place? Tryd.prog 30 = some (fun i => ([(0, 1), (1, 1), (2, 1)] : List (Nat × Nat))[i]?) := by kernel_rfl
@[simp] theorem ag33 : isAgg? Tryd.prog 33 = some false := by kernel_rfl
@[simp] theorem sz33 : size? Tryd.prog 33 = some 1 := by kernel_rfl
@[simp] theorem el33 : elem? Tryd.prog 33 = none := by kernel_rfl
@[simp] theorem ar33 : array? Tryd.prog 33 = none := by kernel_rfl
@[simp] theorem st33 : isStr Tryd.prog 33 = false := by kernel_rfl
@[simp] theorem ifc33 : isIface Tryd.prog 33 = some false := by kernel_rfl
@[simp] theorem zr33 : zero? Tryd.prog 33 = some (.cell (.pv (.sc (.int .i64 0)))) := by kernel_rfl
@[simp] theorem un33 : Program.underlying Tryd.prog 33 = some (.int .i64) := by kernel_rfl
@[simp] theorem ag37 : isAgg? Tryd.prog 37 = some false := by kernel_rfl
@[simp] theorem sz37 : size? Tryd.prog 37 = some 1 := by kernel_rfl
@[simp] theorem el37 : elem? Tryd.prog 37 = none := by kernel_rfl
@[simp] theorem ar37 : array? Tryd.prog 37 = none := by kernel_rfl
@[simp] theorem st37 : isStr Tryd.prog 37 = false := by kernel_rfl
@[simp] theorem ifc37 : isIface Tryd.prog 37 = some false := by kernel_rfl
@[simp] theorem zr37 : zero? Tryd.prog 37 = some (.cell (.pv (.sc .nilFunc))) := by kernel_rfl
@[simp] theorem ag57 : isAgg? Tryd.prog 57 = some false := by kernel_rfl
@[simp] theorem sz57 : size? Tryd.prog 57 = some 1 := by kernel_rfl
@[simp] theorem el57 : elem? Tryd.prog 57 = none := by kernel_rfl
@[simp] theorem ar57 : array? Tryd.prog 57 = none := by kernel_rfl
@[simp] theorem st57 : isStr Tryd.prog 57 = false := by kernel_rfl
@[simp] theorem ifc57 : isIface Tryd.prog 57 = some false := by kernel_rfl
@[simp] theorem zr57 : zero? Tryd.prog 57 = some (.cell (.pv (.sc .nilFunc))) := by kernel_rfl
@[simp] theorem ag59 : isAgg? Tryd.prog 59 = some false := by kernel_rfl
@[simp] theorem sz59 : size? Tryd.prog 59 = some 1 := by kernel_rfl
@[simp] theorem el59 : elem? Tryd.prog 59 = none := by kernel_rfl
@[simp] theorem ar59 : array? Tryd.prog 59 = none := by kernel_rfl
@[simp] theorem st59 : isStr Tryd.prog 59 = false := by kernel_rfl
@[simp] theorem ifc59 : isIface Tryd.prog 59 = some false := by kernel_rfl
@[simp] theorem zr59 : zero? Tryd.prog 59 = some (.cell (.pv (.sc .nilFunc))) := by kernel_rfl
@[simp] theorem ag77 : isAgg? Tryd.prog 77 = some false := by kernel_rfl
@[simp] theorem sz77 : size? Tryd.prog 77 = some 1 := by kernel_rfl
@[simp] theorem el77 : elem? Tryd.prog 77 = none := by kernel_rfl
@[simp] theorem ar77 : array? Tryd.prog 77 = none := by kernel_rfl
@[simp] theorem st77 : isStr Tryd.prog 77 = false := by kernel_rfl
@[simp] theorem ifc77 : isIface Tryd.prog 77 = some true := by kernel_rfl
@[simp] theorem zr77 : zero? Tryd.prog 77 = some (.cell (.pv (.sc .nilIface))) := by kernel_rfl
@[simp] theorem ag86 : isAgg? Tryd.prog 86 = some false := by kernel_rfl
@[simp] theorem sz86 : size? Tryd.prog 86 = some 1 := by kernel_rfl
@[simp] theorem el86 : elem? Tryd.prog 86 = none := by kernel_rfl
@[simp] theorem ar86 : array? Tryd.prog 86 = none := by kernel_rfl
@[simp] theorem st86 : isStr Tryd.prog 86 = false := by kernel_rfl
@[simp] theorem ifc86 : isIface Tryd.prog 86 = some false := by kernel_rfl
@[simp] theorem zr86 : zero? Tryd.prog 86 = some (.cell (.pv (.sc (.int .u64 0)))) := by kernel_rfl
@[simp] theorem un86 : Program.underlying Tryd.prog 86 = some (.int .u64) := by kernel_rfl
@[simp] theorem ag89 : isAgg? Tryd.prog 89 = some false := by kernel_rfl
@[simp] theorem sz89 : size? Tryd.prog 89 = some 1 := by kernel_rfl
@[simp] theorem el89 : elem? Tryd.prog 89 = none := by kernel_rfl
@[simp] theorem ar89 : array? Tryd.prog 89 = none := by kernel_rfl
@[simp] theorem st89 : isStr Tryd.prog 89 = false := by kernel_rfl
@[simp] theorem ifc89 : isIface Tryd.prog 89 = some false := by kernel_rfl
@[simp] theorem zr89 : zero? Tryd.prog 89 = some (.cell (.pv (.sc (.int .i64 0)))) := by kernel_rfl
@[simp] theorem un89 : Program.underlying Tryd.prog 89 = some (.int .i64) := by kernel_rfl
@[simp] theorem ag90 : isAgg? Tryd.prog 90 = some false := by kernel_rfl
@[simp] theorem sz90 : size? Tryd.prog 90 = some 1 := by kernel_rfl
@[simp] theorem el90 : elem? Tryd.prog 90 = none := by kernel_rfl
@[simp] theorem ar90 : array? Tryd.prog 90 = none := by kernel_rfl
@[simp] theorem st90 : isStr Tryd.prog 90 = false := by kernel_rfl
@[simp] theorem ifc90 : isIface Tryd.prog 90 = some false := by kernel_rfl
@[simp] theorem zr90 : zero? Tryd.prog 90 = some (.cell (.pv (.sc (.int .u64 0)))) := by kernel_rfl
@[simp] theorem un90 : Program.underlying Tryd.prog 90 = some (.int .u64) := by kernel_rfl
@[simp] theorem ag93 : isAgg? Tryd.prog 93 = some false := by kernel_rfl
@[simp] theorem sz93 : size? Tryd.prog 93 = some 1 := by kernel_rfl
@[simp] theorem el93 : elem? Tryd.prog 93 = none := by kernel_rfl
@[simp] theorem ar93 : array? Tryd.prog 93 = none := by kernel_rfl
@[simp] theorem st93 : isStr Tryd.prog 93 = false := by kernel_rfl
@[simp] theorem ifc93 : isIface Tryd.prog 93 = some false := by kernel_rfl
@[simp] theorem zr93 : zero? Tryd.prog 93 = some (.cell (.pv (.sc (.pointer none)))) := by kernel_rfl
@[simp] theorem ag98 : isAgg? Tryd.prog 98 = some true := by kernel_rfl
@[simp] theorem sz98 : size? Tryd.prog 98 = some 256 := by kernel_rfl
@[simp] theorem el98 : elem? Tryd.prog 98 = none := by kernel_rfl
@[simp] theorem ar98 : array? Tryd.prog 98 = some (256, 1, false) := by kernel_rfl
@[simp] theorem st98 : isStr Tryd.prog 98 = false := by kernel_rfl
@[simp] theorem ifc98 : isIface Tryd.prog 98 = some false := by kernel_rfl
@[simp] theorem pl98 : place? Tryd.prog 98 = some (fun i => some (i * 1, 1)) := by kernel_rfl
@[simp] theorem ag100 : isAgg? Tryd.prog 100 = some true := by kernel_rfl
@[simp] theorem sz100 : size? Tryd.prog 100 = some 2 := by kernel_rfl
@[simp] theorem el100 : elem? Tryd.prog 100 = none := by kernel_rfl
@[simp] theorem ar100 : array? Tryd.prog 100 = none := by kernel_rfl
@[simp] theorem st100 : isStr Tryd.prog 100 = false := by kernel_rfl
@[simp] theorem ifc100 : isIface Tryd.prog 100 = some false := by kernel_rfl
@[simp] theorem zr100 : zero? Tryd.prog 100 = some (.agg [.pv (.sc (.int .u8 0)), .pv (.sc (.int .u8 0))]) := by kernel_rfl
@[simp] theorem pl100 : place? Tryd.prog 100 = some (fun i => ([(0, 1), (1, 1)] : List (Nat × Nat))[i]?) := by kernel_rfl
@[simp] theorem ag101 : isAgg? Tryd.prog 101 = some true := by kernel_rfl
@[simp] theorem sz101 : size? Tryd.prog 101 = some 32 := by kernel_rfl
@[simp] theorem el101 : elem? Tryd.prog 101 = none := by kernel_rfl
@[simp] theorem ar101 : array? Tryd.prog 101 = some (16, 2, true) := by kernel_rfl
@[simp] theorem st101 : isStr Tryd.prog 101 = false := by kernel_rfl
@[simp] theorem ifc101 : isIface Tryd.prog 101 = some false := by kernel_rfl
@[simp] theorem zr101 : zero? Tryd.prog 101 = some (.agg [.pv (.sc (.int .u8 0)), .pv (.sc (.int .u8 0)), .pv (.sc (.int .u8 0)), .pv (.sc (.int .u8 0)), .pv (.sc (.int .u8 0)), .pv (.sc (.int .u8 0)), .pv (.sc (.int .u8 0)), .pv (.sc (.int .u8 0)), .pv (.sc (.int .u8 0)), .pv (.sc (.int .u8 0)), .pv (.sc (.int .u8 0)), .pv (.sc (.int .u8 0)), .pv (.sc (.int .u8 0)), .pv (.sc (.int .u8 0)), .pv (.sc (.int .u8 0)), .pv (.sc (.int .u8 0)), .pv (.sc (.int .u8 0)), .pv (.sc (.int .u8 0)), .pv (.sc (.int .u8 0)), .pv (.sc (.int .u8 0)), .pv (.sc (.int .u8 0)), .pv (.sc (.int .u8 0)), .pv (.sc (.int .u8 0)), .pv (.sc (.int .u8 0)), .pv (.sc (.int .u8 0)), .pv (.sc (.int .u8 0)), .pv (.sc (.int .u8 0)), .pv (.sc (.int .u8 0)), .pv (.sc (.int .u8 0)), .pv (.sc (.int .u8 0)), .pv (.sc (.int .u8 0)), .pv (.sc (.int .u8 0))]) := by kernel_rfl
@[simp] theorem pl101 : place? Tryd.prog 101 = some (fun i => some (i * 2, 2)) := by kernel_rfl
@[simp] theorem ag103 : isAgg? Tryd.prog 103 = some false := by kernel_rfl
@[simp] theorem sz103 : size? Tryd.prog 103 = some 1 := by kernel_rfl
@[simp] theorem el103 : elem? Tryd.prog 103 = some (5, 1, 1) := by kernel_rfl
@[simp] theorem ar103 : array? Tryd.prog 103 = none := by kernel_rfl
@[simp] theorem st103 : isStr Tryd.prog 103 = false := by kernel_rfl
@[simp] theorem ifc103 : isIface Tryd.prog 103 = some false := by kernel_rfl
@[simp] theorem zr103 : zero? Tryd.prog 103 = some (.cell (.pv (.sc (.slice none 0 0)))) := by kernel_rfl
@[simp] theorem un103 : Program.underlying Tryd.prog 103 = some (.slice 5) := by kernel_rfl
@[simp] theorem ag106 : isAgg? Tryd.prog 106 = some true := by kernel_rfl
@[simp] theorem sz106 : size? Tryd.prog 106 = some 3 := by kernel_rfl
@[simp] theorem el106 : elem? Tryd.prog 106 = none := by kernel_rfl
@[simp] theorem ar106 : array? Tryd.prog 106 = none := by kernel_rfl
@[simp] theorem st106 : isStr Tryd.prog 106 = false := by kernel_rfl
@[simp] theorem ifc106 : isIface Tryd.prog 106 = some false := by kernel_rfl
@[simp] theorem zr106 : zero? Tryd.prog 106 = some (.agg [.pv (.sc (.string ⟨#[]⟩)), .pv (.sc (.string ⟨#[]⟩)), .pv (.sc .nilIface)]) := by kernel_rfl
@[simp] theorem pl106 : place? Tryd.prog 106 = some (fun i => ([(0, 1), (1, 1), (2, 1)] : List (Nat × Nat))[i]?) := by kernel_rfl
@[simp] theorem ag108 : isAgg? Tryd.prog 108 = some true := by kernel_rfl
@[simp] theorem sz108 : size? Tryd.prog 108 = some 24 := by kernel_rfl
@[simp] theorem el108 : elem? Tryd.prog 108 = none := by kernel_rfl
@[simp] theorem ar108 : array? Tryd.prog 108 = some (24, 1, false) := by kernel_rfl
@[simp] theorem st108 : isStr Tryd.prog 108 = false := by kernel_rfl
@[simp] theorem ifc108 : isIface Tryd.prog 108 = some false := by kernel_rfl
@[simp] theorem zr108 : zero? Tryd.prog 108 = some (.agg [.pv (.sc (.int .u8 0)), .pv (.sc (.int .u8 0)), .pv (.sc (.int .u8 0)), .pv (.sc (.int .u8 0)), .pv (.sc (.int .u8 0)), .pv (.sc (.int .u8 0)), .pv (.sc (.int .u8 0)), .pv (.sc (.int .u8 0)), .pv (.sc (.int .u8 0)), .pv (.sc (.int .u8 0)), .pv (.sc (.int .u8 0)), .pv (.sc (.int .u8 0)), .pv (.sc (.int .u8 0)), .pv (.sc (.int .u8 0)), .pv (.sc (.int .u8 0)), .pv (.sc (.int .u8 0)), .pv (.sc (.int .u8 0)), .pv (.sc (.int .u8 0)), .pv (.sc (.int .u8 0)), .pv (.sc (.int .u8 0)), .pv (.sc (.int .u8 0)), .pv (.sc (.int .u8 0)), .pv (.sc (.int .u8 0)), .pv (.sc (.int .u8 0))]) := by kernel_rfl
@[simp] theorem pl108 : place? Tryd.prog 108 = some (fun i => some (i * 1, 1)) := by kernel_rfl
@[simp] theorem ag113 : isAgg? Tryd.prog 113 = some false := by kernel_rfl
@[simp] theorem sz113 : size? Tryd.prog 113 = some 1 := by kernel_rfl
@[simp] theorem el113 : elem? Tryd.prog 113 = none := by kernel_rfl
@[simp] theorem ar113 : array? Tryd.prog 113 = none := by kernel_rfl
@[simp] theorem st113 : isStr Tryd.prog 113 = false := by kernel_rfl
@[simp] theorem ifc113 : isIface Tryd.prog 113 = some false := by kernel_rfl
@[simp] theorem zr113 : zero? Tryd.prog 113 = some (.cell (.pv (.sc (.pointer none)))) := by kernel_rfl
@[simp] theorem ag114 : isAgg? Tryd.prog 114 = some false := by kernel_rfl
@[simp] theorem sz114 : size? Tryd.prog 114 = some 1 := by kernel_rfl
@[simp] theorem el114 : elem? Tryd.prog 114 = none := by kernel_rfl
@[simp] theorem ar114 : array? Tryd.prog 114 = none := by kernel_rfl
@[simp] theorem st114 : isStr Tryd.prog 114 = false := by kernel_rfl
@[simp] theorem ifc114 : isIface Tryd.prog 114 = some false := by kernel_rfl
@[simp] theorem zr114 : zero? Tryd.prog 114 = some (.cell (.pv (.sc (.pointer none)))) := by kernel_rfl
@[simp] theorem ag116 : isAgg? Tryd.prog 116 = some true := by kernel_rfl
@[simp] theorem sz116 : size? Tryd.prog 116 = some 1 := by kernel_rfl
@[simp] theorem el116 : elem? Tryd.prog 116 = none := by kernel_rfl
@[simp] theorem ar116 : array? Tryd.prog 116 = none := by kernel_rfl
@[simp] theorem st116 : isStr Tryd.prog 116 = false := by kernel_rfl
@[simp] theorem ifc116 : isIface Tryd.prog 116 = some false := by kernel_rfl
@[simp] theorem zr116 : zero? Tryd.prog 116 = some (.agg [.pv (.sc (.string ⟨#[]⟩))]) := by kernel_rfl
@[simp] theorem pl116 : place? Tryd.prog 116 = some (fun i => ([(0, 1)] : List (Nat × Nat))[i]?) := by kernel_rfl
@[simp] theorem ag119 : isAgg? Tryd.prog 119 = some true := by kernel_rfl
@[simp] theorem sz119 : size? Tryd.prog 119 = some 20 := by kernel_rfl
@[simp] theorem el119 : elem? Tryd.prog 119 = none := by kernel_rfl
@[simp] theorem ar119 : array? Tryd.prog 119 = some (20, 1, false) := by kernel_rfl
@[simp] theorem st119 : isStr Tryd.prog 119 = false := by kernel_rfl
@[simp] theorem ifc119 : isIface Tryd.prog 119 = some false := by kernel_rfl
@[simp] theorem zr119 : zero? Tryd.prog 119 = some (.agg [.pv (.sc (.int .u64 0)), .pv (.sc (.int .u64 0)), .pv (.sc (.int .u64 0)), .pv (.sc (.int .u64 0)), .pv (.sc (.int .u64 0)), .pv (.sc (.int .u64 0)), .pv (.sc (.int .u64 0)), .pv (.sc (.int .u64 0)), .pv (.sc (.int .u64 0)), .pv (.sc (.int .u64 0)), .pv (.sc (.int .u64 0)), .pv (.sc (.int .u64 0)), .pv (.sc (.int .u64 0)), .pv (.sc (.int .u64 0)), .pv (.sc (.int .u64 0)), .pv (.sc (.int .u64 0)), .pv (.sc (.int .u64 0)), .pv (.sc (.int .u64 0)), .pv (.sc (.int .u64 0)), .pv (.sc (.int .u64 0))]) := by kernel_rfl
@[simp] theorem pl119 : place? Tryd.prog 119 = some (fun i => some (i * 1, 1)) := by kernel_rfl
@[simp] theorem ag120 : isAgg? Tryd.prog 120 = some false := by kernel_rfl
@[simp] theorem sz120 : size? Tryd.prog 120 = some 1 := by kernel_rfl
@[simp] theorem el120 : elem? Tryd.prog 120 = none := by kernel_rfl
@[simp] theorem ar120 : array? Tryd.prog 120 = none := by kernel_rfl
@[simp] theorem st120 : isStr Tryd.prog 120 = false := by kernel_rfl
@[simp] theorem ifc120 : isIface Tryd.prog 120 = some false := by kernel_rfl
@[simp] theorem zr120 : zero? Tryd.prog 120 = some (.cell (.pv (.sc (.int .u32 0)))) := by kernel_rfl
@[simp] theorem un120 : Program.underlying Tryd.prog 120 = some (.int .u32) := by kernel_rfl
@[simp] theorem ag121 : isAgg? Tryd.prog 121 = some true := by kernel_rfl
@[simp] theorem sz121 : size? Tryd.prog 121 = some 65 := by kernel_rfl
@[simp] theorem el121 : elem? Tryd.prog 121 = none := by kernel_rfl
@[simp] theorem ar121 : array? Tryd.prog 121 = some (65, 1, false) := by kernel_rfl
@[simp] theorem st121 : isStr Tryd.prog 121 = false := by kernel_rfl
@[simp] theorem ifc121 : isIface Tryd.prog 121 = some false := by kernel_rfl
@[simp] theorem pl121 : place? Tryd.prog 121 = some (fun i => some (i * 1, 1)) := by kernel_rfl
@[simp] theorem ag124 : isAgg? Tryd.prog 124 = some true := by kernel_rfl
@[simp] theorem sz124 : size? Tryd.prog 124 = some 32 := by kernel_rfl
@[simp] theorem el124 : elem? Tryd.prog 124 = none := by kernel_rfl
@[simp] theorem ar124 : array? Tryd.prog 124 = some (32, 1, false) := by kernel_rfl
@[simp] theorem st124 : isStr Tryd.prog 124 = false := by kernel_rfl
@[simp] theorem ifc124 : isIface Tryd.prog 124 = some false := by kernel_rfl
@[simp] theorem zr124 : zero? Tryd.prog 124 = some (.agg [.pv (.sc (.int .u8 0)), .pv (.sc (.int .u8 0)), .pv (.sc (.int .u8 0)), .pv (.sc (.int .u8 0)), .pv (.sc (.int .u8 0)), .pv (.sc (.int .u8 0)), .pv (.sc (.int .u8 0)), .pv (.sc (.int .u8 0)), .pv (.sc (.int .u8 0)), .pv (.sc (.int .u8 0)), .pv (.sc (.int .u8 0)), .pv (.sc (.int .u8 0)), .pv (.sc (.int .u8 0)), .pv (.sc (.int .u8 0)), .pv (.sc (.int .u8 0)), .pv (.sc (.int .u8 0)), .pv (.sc (.int .u8 0)), .pv (.sc (.int .u8 0)), .pv (.sc (.int .u8 0)), .pv (.sc (.int .u8 0)), .pv (.sc (.int .u8 0)), .pv (.sc (.int .u8 0)), .pv (.sc (.int .u8 0)), .pv (.sc (.int .u8 0)), .pv (.sc (.int .u8 0)), .pv (.sc (.int .u8 0)), .pv (.sc (.int .u8 0)), .pv (.sc (.int .u8 0)), .pv (.sc (.int .u8 0)), .pv (.sc (.int .u8 0)), .pv (.sc (.int .u8 0)), .pv (.sc (.int .u8 0))]) := by kernel_rfl
@[simp] theorem pl124 : place? Tryd.prog 124 = some (fun i => some (i * 1, 1)) := by kernel_rfl
@[simp] theorem ag125 : isAgg? Tryd.prog 125 = some true := by kernel_rfl
@[simp] theorem sz125 : size? Tryd.prog 125 = some 64 := by kernel_rfl
@[simp] theorem el125 : elem? Tryd.prog 125 = none := by kernel_rfl
@[simp] theorem ar125 : array? Tryd.prog 125 = some (64, 1, false) := by kernel_rfl
@[simp] theorem st125 : isStr Tryd.prog 125 = false := by kernel_rfl
@[simp] theorem ifc125 : isIface Tryd.prog 125 = some false := by kernel_rfl
@[simp] theorem pl125 : place? Tryd.prog 125 = some (fun i => some (i * 1, 1)) := by kernel_rfl
@[simp] theorem fd26_0 : field? Tryd.prog 26 0 = some (0, 1, false) := by kernel_rfl
@[simp] theorem fd26_1 : field? Tryd.prog 26 1 = some (1, 1, false) := by kernel_rfl
@[simp] theorem fd26_2 : field? Tryd.prog 26 2 = some (2, 1, false) := by kernel_rfl
@[simp] theorem fd26_3 : field? Tryd.prog 26 3 = some (3, 1, false) := by kernel_rfl
@[simp] theorem fd26_4 : field? Tryd.prog 26 4 = some (4, 1, false) := by kernel_rfl
@[simp] theorem fd30_0 : field? Tryd.prog 30 0 = some (0, 1, false) := by kernel_rfl
@[simp] theorem fd30_1 : field? Tryd.prog 30 1 = some (1, 1, false) := by kernel_rfl
@[simp] theorem fd30_2 : field? Tryd.prog 30 2 = some (2, 1, false) := by kernel_rfl
@[simp] theorem fd100_0 : field? Tryd.prog 100 0 = some (0, 1, false) := by kernel_rfl
@[simp] theorem fd100_1 : field? Tryd.prog 100 1 = some (1, 1, false) := by kernel_rfl
@[simp] theorem en3 : enters Tryd.prog 3 = true := by kernel_rfl
@[simp] theorem en4 : enters Tryd.prog 4 = true := by kernel_rfl
@[simp] theorem en5 : enters Tryd.prog 5 = true := by kernel_rfl
@[simp] theorem en6 : enters Tryd.prog 6 = true := by kernel_rfl
@[simp] theorem en7 : enters Tryd.prog 7 = true := by kernel_rfl
@[simp] theorem en8 : enters Tryd.prog 8 = true := by kernel_rfl
@[simp] theorem en9 : enters Tryd.prog 9 = true := by kernel_rfl
@[simp] theorem en10 : enters Tryd.prog 10 = true := by kernel_rfl
@[simp] theorem en11 : enters Tryd.prog 11 = true := by kernel_rfl
@[simp] theorem en12 : enters Tryd.prog 12 = true := by kernel_rfl
@[simp] theorem en13 : enters Tryd.prog 13 = true := by kernel_rfl
@[simp] theorem en14 : enters Tryd.prog 14 = true := by kernel_rfl
@[simp] theorem en15 : enters Tryd.prog 15 = true := by kernel_rfl
@[simp] theorem en16 : enters Tryd.prog 16 = true := by kernel_rfl
@[simp] theorem en17 : enters Tryd.prog 17 = true := by kernel_rfl
@[simp] theorem en18 : enters Tryd.prog 18 = true := by kernel_rfl
@[simp] theorem en19 : enters Tryd.prog 19 = true := by kernel_rfl
@[simp] theorem en20 : enters Tryd.prog 20 = true := by kernel_rfl
@[simp] theorem en21 : enters Tryd.prog 21 = true := by kernel_rfl
@[simp] theorem en22 : enters Tryd.prog 22 = true := by kernel_rfl
@[simp] theorem en23 : enters Tryd.prog 23 = true := by kernel_rfl
@[simp] theorem en24 : enters Tryd.prog 24 = true := by kernel_rfl
@[simp] theorem en25 : enters Tryd.prog 25 = true := by kernel_rfl
@[simp] theorem en26 : enters Tryd.prog 26 = true := by kernel_rfl
@[simp] theorem en27 : enters Tryd.prog 27 = true := by kernel_rfl
@[simp] theorem en28 : enters Tryd.prog 28 = true := by kernel_rfl
@[simp] theorem en29 : enters Tryd.prog 29 = true := by kernel_rfl
@[simp] theorem en30 : enters Tryd.prog 30 = true := by kernel_rfl
@[simp] theorem en31 : enters Tryd.prog 31 = true := by kernel_rfl
@[simp] theorem en32 : enters Tryd.prog 32 = true := by kernel_rfl
@[simp] theorem en33 : enters Tryd.prog 33 = true := by kernel_rfl
@[simp] theorem en34 : enters Tryd.prog 34 = true := by kernel_rfl
@[simp] theorem en35 : enters Tryd.prog 35 = true := by kernel_rfl
@[simp] theorem en36 : enters Tryd.prog 36 = true := by kernel_rfl
@[simp] theorem en37 : enters Tryd.prog 37 = true := by kernel_rfl
@[simp] theorem en38 : enters Tryd.prog 38 = true := by kernel_rfl
@[simp] theorem en39 : enters Tryd.prog 39 = true := by kernel_rfl
@[simp] theorem en40 : enters Tryd.prog 40 = true := by kernel_rfl
@[simp] theorem en41 : enters Tryd.prog 41 = true := by kernel_rfl
@[simp] theorem en42 : enters Tryd.prog 42 = true := by kernel_rfl
@[simp] theorem en43 : enters Tryd.prog 43 = true := by kernel_rfl
@[simp] theorem en44 : enters Tryd.prog 44 = true := by kernel_rfl
@[simp] theorem en45 : enters Tryd.prog 45 = true := by kernel_rfl
@[simp] theorem en46 : enters Tryd.prog 46 = true := by kernel_rfl
@[simp] theorem en47 : enters Tryd.prog 47 = true := by kernel_rfl
@[simp] theorem en48 : enters Tryd.prog 48 = true := by kernel_rfl
@[simp] theorem en49 : enters Tryd.prog 49 = true := by kernel_rfl
@[simp] theorem en50 : enters Tryd.prog 50 = true := by kernel_rfl
@[simp] theorem en51 : enters Tryd.prog 51 = true := by kernel_rfl
@[simp] theorem en52 : enters Tryd.prog 52 = true := by kernel_rfl
@[simp] theorem en53 : enters Tryd.prog 53 = true := by kernel_rfl
@[simp] theorem en54 : enters Tryd.prog 54 = true := by kernel_rfl
@[simp] theorem en55 : enters Tryd.prog 55 = true := by kernel_rfl
@[simp] theorem en56 : enters Tryd.prog 56 = true := by kernel_rfl
@[simp] theorem en57 : enters Tryd.prog 57 = true := by kernel_rfl
@[simp] theorem en58 : enters Tryd.prog 58 = true := by kernel_rfl
@[simp] theorem en59 : enters Tryd.prog 59 = true := by kernel_rfl
@[simp] theorem en60 : enters Tryd.prog 60 = true := by kernel_rfl
@[simp] theorem en61 : enters Tryd.prog 61 = true := by kernel_rfl
@[simp] theorem en62 : enters Tryd.prog 62 = true := by kernel_rfl
@[simp] theorem en63 : enters Tryd.prog 63 = true := by kernel_rfl
@[simp] theorem en64 : enters Tryd.prog 64 = true := by kernel_rfl
@[simp] theorem en65 : enters Tryd.prog 65 = true := by kernel_rfl
@[simp] theorem en66 : enters Tryd.prog 66 = true := by kernel_rfl
@[simp] theorem en67 : enters Tryd.prog 67 = true := by kernel_rfl
@[simp] theorem en68 : enters Tryd.prog 68 = true := by kernel_rfl
@[simp] theorem en69 : enters Tryd.prog 69 = true := by kernel_rfl
@[simp] theorem en70 : enters Tryd.prog 70 = true := by kernel_rfl
@[simp] theorem en71 : enters Tryd.prog 71 = true := by kernel_rfl
@[simp] theorem en72 : enters Tryd.prog 72 = true := by kernel_rfl
@[simp] theorem en73 : enters Tryd.prog 73 = true := by kernel_rfl
@[simp] theorem en74 : enters Tryd.prog 74 = true := by kernel_rfl
@[simp] theorem en75 : enters Tryd.prog 75 = true := by kernel_rfl
@[simp] theorem en76 : enters Tryd.prog 76 = true := by kernel_rfl
@[simp] theorem en77 : enters Tryd.prog 77 = true := by kernel_rfl
@[simp] theorem en78 : enters Tryd.prog 78 = true := by kernel_rfl
@[simp] theorem en79 : enters Tryd.prog 79 = true := by kernel_rfl
@[simp] theorem en80 : enters Tryd.prog 80 = true := by kernel_rfl
@[simp] theorem en81 : enters Tryd.prog 81 = true := by kernel_rfl
@[simp] theorem en82 : enters Tryd.prog 82 = true := by kernel_rfl
@[simp] theorem en83 : enters Tryd.prog 83 = true := by kernel_rfl
@[simp] theorem en84 : enters Tryd.prog 84 = true := by kernel_rfl
@[simp] theorem en85 : enters Tryd.prog 85 = true := by kernel_rfl
@[simp] theorem en86 : enters Tryd.prog 86 = true := by kernel_rfl
@[simp] theorem en87 : enters Tryd.prog 87 = true := by kernel_rfl
@[simp] theorem en88 : enters Tryd.prog 88 = true := by kernel_rfl
@[simp] theorem en89 : enters Tryd.prog 89 = true := by kernel_rfl
@[simp] theorem en90 : enters Tryd.prog 90 = true := by kernel_rfl
@[simp] theorem en91 : enters Tryd.prog 91 = true := by kernel_rfl
@[simp] theorem en92 : enters Tryd.prog 92 = true := by kernel_rfl
@[simp] theorem en93 : enters Tryd.prog 93 = true := by kernel_rfl
@[simp] theorem en94 : enters Tryd.prog 94 = true := by kernel_rfl
@[simp] theorem en95 : enters Tryd.prog 95 = true := by kernel_rfl
@[simp] theorem en96 : enters Tryd.prog 96 = true := by kernel_rfl
@[simp] theorem en97 : enters Tryd.prog 97 = true := by kernel_rfl
@[simp] theorem en98 : enters Tryd.prog 98 = true := by kernel_rfl
@[simp] theorem en99 : enters Tryd.prog 99 = true := by kernel_rfl
@[simp] theorem en100 : enters Tryd.prog 100 = true := by kernel_rfl
@[simp] theorem en101 : enters Tryd.prog 101 = true := by kernel_rfl
theorem mixed : Tryd.prog.follows .mixedOrders = true := by kernel_rfl
end Abs
end Go.Proofs.YtkmhhboihgckcaaDoor
