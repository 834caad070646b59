/-
  What the evaluator asks of the program's types.
-/
import Derived.Test.YtkmhhboihgckcaaGreatDoorAbsT
import Derived.Test.YtkmhhboihgckcaaGreatDoorProg
import Derived.KernelRfl
namespace Go.Proofs.YtkmhhboihgckcaaGreatDoor
namespace Abs
@[simp] theorem ag2 : isAgg? Tryz.prog 2 = some false := by kernel_rfl
@[simp] theorem sz2 : size? Tryz.prog 2 = some 1 := by kernel_rfl
@[simp] theorem el2 : elem? Tryz.prog 2 = none := by kernel_rfl
@[simp] theorem ar2 : array? Tryz.prog 2 = none := by kernel_rfl
@[simp] theorem st2 : isStr Tryz.prog 2 = false := by kernel_rfl
@[simp] theorem ifc2 : isIface Tryz.prog 2 = some false := by kernel_rfl
@[simp] theorem zr2 : zero? Tryz.prog 2 = some (.cell (.pv (.sc (.int .i64 0)))) := by kernel_rfl
@[simp] theorem un2 : Program.underlying Tryz.prog 2 = some (.int .i64) := by kernel_rfl
@[simp] theorem ag3 : isAgg? Tryz.prog 3 = some false := by kernel_rfl
@[simp] theorem sz3 : size? Tryz.prog 3 = some 1 := by kernel_rfl
@[simp] theorem el3 : elem? Tryz.prog 3 = none := by kernel_rfl
@[simp] theorem ar3 : array? Tryz.prog 3 = none := by kernel_rfl
@[simp] theorem st3 : isStr Tryz.prog 3 = false := by kernel_rfl
@[simp] theorem ifc3 : isIface Tryz.prog 3 = some false := by kernel_rfl
@[simp] theorem zr3 : zero? Tryz.prog 3 = some (.cell (.pv (.sc (.int .i64 0)))) := by kernel_rfl
@[simp] theorem un3 : Program.underlying Tryz.prog 3 = some (.int .i64) := by kernel_rfl
@[simp] theorem ag4 : isAgg? Tryz.prog 4 = some false := by kernel_rfl
@[simp] theorem sz4 : size? Tryz.prog 4 = some 1 := by kernel_rfl
@[simp] theorem el4 : elem? Tryz.prog 4 = none := by kernel_rfl
@[simp] theorem ar4 : array? Tryz.prog 4 = none := by kernel_rfl
@[simp] theorem st4 : isStr Tryz.prog 4 = false := by kernel_rfl
@[simp] theorem ifc4 : isIface Tryz.prog 4 = some false := by kernel_rfl
@[simp] theorem zr4 : zero? Tryz.prog 4 = some (.cell (.pv (.sc (.bool false)))) := by kernel_rfl
@[simp] theorem un4 : Program.underlying Tryz.prog 4 = some .bool := by kernel_rfl
@[simp] theorem ag5 : isAgg? Tryz.prog 5 = some false := by kernel_rfl
@[simp] theorem sz5 : size? Tryz.prog 5 = some 1 := by kernel_rfl
@[simp] theorem el5 : elem? Tryz.prog 5 = none := by kernel_rfl
@[simp] theorem ar5 : array? Tryz.prog 5 = none := by kernel_rfl
@[simp] theorem st5 : isStr Tryz.prog 5 = false := by kernel_rfl
@[simp] theorem ifc5 : isIface Tryz.prog 5 = some false := by kernel_rfl
@[simp] theorem zr5 : zero? Tryz.prog 5 = some (.cell (.pv (.sc (.int .u8 0)))) := by kernel_rfl
@[simp] theorem un5 : Program.underlying Tryz.prog 5 = some (.int .u8) := by kernel_rfl
@[simp] theorem ag9 : isAgg? Tryz.prog 9 = some false := by kernel_rfl
@[simp] theorem sz9 : size? Tryz.prog 9 = some 1 := by kernel_rfl
@[simp] theorem el9 : elem? Tryz.prog 9 = none := by kernel_rfl
@[simp] theorem ar9 : array? Tryz.prog 9 = none := by kernel_rfl
@[simp] theorem st9 : isStr Tryz.prog 9 = true := by kernel_rfl
@[simp] theorem ifc9 : isIface Tryz.prog 9 = some false := by kernel_rfl
@[simp] theorem zr9 : zero? Tryz.prog 9 = some (.cell (.pv (.sc (.string ⟨#[]⟩)))) := by kernel_rfl
@[simp] theorem un9 : Program.underlying Tryz.prog 9 = some .string := by kernel_rfl
@[simp] theorem ag12 : isAgg? Tryz.prog 12 = some false := by kernel_rfl
@[simp] theorem sz12 : size? Tryz.prog 12 = some 1 := by kernel_rfl
@[simp] theorem el12 : elem? Tryz.prog 12 = none := by kernel_rfl
@[simp] theorem ar12 : array? Tryz.prog 12 = none := by kernel_rfl
@[simp] theorem st12 : isStr Tryz.prog 12 = false := by kernel_rfl
@[simp] theorem ifc12 : isIface Tryz.prog 12 = some false := by kernel_rfl
@[simp] theorem zr12 : zero? Tryz.prog 12 = some (.cell (.pv (.sc (.int .u64 0)))) := by kernel_rfl
@[simp] theorem un12 : Program.underlying Tryz.prog 12 = some (.int .u64) := by kernel_rfl
@[simp] theorem ag21 : isAgg? Tryz.prog 21 = some false := by kernel_rfl
@[simp] theorem sz21 : size? Tryz.prog 21 = some 1 := by kernel_rfl
@[simp] theorem el21 : elem? Tryz.prog 21 = none := by kernel_rfl
@[simp] theorem ar21 : array? Tryz.prog 21 = none := by kernel_rfl
@[simp] theorem st21 : isStr Tryz.prog 21 = false := by kernel_rfl
@[simp] theorem ifc21 : isIface Tryz.prog 21 = some false := by kernel_rfl
@[simp] theorem zr21 : zero? Tryz.prog 21 = some (.cell (.pv (.sc (.int .i32 0)))) := by kernel_rfl
@[simp] theorem un21 : Program.underlying Tryz.prog 21 = some (.int .i32) := by kernel_rfl
@[simp] theorem ag22 : isAgg? Tryz.prog 22 = some false := by kernel_rfl
@[simp] theorem sz22 : size? Tryz.prog 22 = some 1 := by kernel_rfl
@[simp] theorem el22 : elem? Tryz.prog 22 = none := by kernel_rfl
@[simp] theorem ar22 : array? Tryz.prog 22 = none := by kernel_rfl
@[simp] theorem st22 : isStr Tryz.prog 22 = false := by kernel_rfl
@[simp] theorem ifc22 : isIface Tryz.prog 22 = some false := by kernel_rfl
@[simp] theorem zr22 : zero? Tryz.prog 22 = some (.cell (.pv (.sc (.int .i64 0)))) := by kernel_rfl
@[simp] theorem un22 : Program.underlying Tryz.prog 22 = some (.int .i64) := by kernel_rfl
@[simp] theorem ag23 : isAgg? Tryz.prog 23 = some false := by kernel_rfl
@[simp] theorem sz23 : size? Tryz.prog 23 = some 1 := by kernel_rfl
@[simp] theorem el23 : elem? Tryz.prog 23 = some (26, 5, 80) := by kernel_rfl
@[simp] theorem ar23 : array? Tryz.prog 23 = none := by kernel_rfl
@[simp] theorem st23 : isStr Tryz.prog 23 = false := by kernel_rfl
@[simp] theorem ifc23 : isIface Tryz.prog 23 = some false := by kernel_rfl
@[simp] theorem zr23 : zero? Tryz.prog 23 = some (.cell (.pv (.sc (.slice none 0 0)))) := by kernel_rfl
@[simp] theorem un23 : Program.underlying Tryz.prog 23 = some (.slice 26) := by kernel_rfl
@[simp] theorem ag24 : isAgg? Tryz.prog 24 = some false := by kernel_rfl
@[simp] theorem sz24 : size? Tryz.prog 24 = some 1 := by kernel_rfl
@[simp] theorem el24 : elem? Tryz.prog 24 = some (9, 1, 16) := by kernel_rfl
@[simp] theorem ar24 : array? Tryz.prog 24 = none := by kernel_rfl
@[simp] theorem st24 : isStr Tryz.prog 24 = false := by kernel_rfl
@[simp] theorem ifc24 : isIface Tryz.prog 24 = some false := by kernel_rfl
@[simp] theorem zr24 : zero? Tryz.prog 24 = some (.cell (.pv (.sc (.slice none 0 0)))) := by kernel_rfl
@[simp] theorem un24 : Program.underlying Tryz.prog 24 = some (.slice 9) := by kernel_rfl
@[simp] theorem ag26 : isAgg? Tryz.prog 26 = some true := by kernel_rfl
@[simp] theorem sz26 : size? Tryz.prog 26 = some 5 := by kernel_rfl
@[simp] theorem el26 : elem? Tryz.prog 26 = none := by kernel_rfl
@[simp] theorem ar26 : array? Tryz.prog 26 = none := by kernel_rfl
@[simp] theorem st26 : isStr Tryz.prog 26 = false := by kernel_rfl
@[simp] theorem ifc26 : isIface Tryz.prog 26 = some false := by kernel_rfl
@[simp] theorem zr26 : zero? Tryz.prog 26 = some (.agg [.pv (.sc (.int .i64 0)), .pv (.sc (.int .i64 0)), .pv (.sc (.string ⟨#[]⟩)), .pv (.sc (.slice none 0 0)), .pv (.sc (.slice none 0 0))]) := by kernel_rfl
@[simp] theorem pl26 : place? Tryz.prog 26 = some (fun i => ([(0, 1), (1, 1), (2, 1), (3, 1), (4, 1)] : List (Nat × Nat))[i]?) := by kernel_rfl
@[simp] theorem ag28 : isAgg? Tryz.prog 28 = some false := by kernel_rfl
@[simp] theorem sz28 : size? Tryz.prog 28 = some 1 := by kernel_rfl
@[simp] theorem el28 : elem? Tryz.prog 28 = none := by kernel_rfl
@[simp] theorem ar28 : array? Tryz.prog 28 = none := by kernel_rfl
@[simp] theorem st28 : isStr Tryz.prog 28 = false := by kernel_rfl
@[simp] theorem ifc28 : isIface Tryz.prog 28 = some false := by kernel_rfl
@[simp] theorem zr28 : zero? Tryz.prog 28 = some (.cell (.pv (.sc (.int .i64 0)))) := by kernel_rfl
@[simp] theorem un28 : Program.underlying Tryz.prog 28 = some (.int .i64) := by kernel_rfl
@[simp] theorem ag29 : isAgg? Tryz.prog 29 = some false := by kernel_rfl
@[simp] theorem sz29 : size? Tryz.prog 29 = some 1 := by kernel_rfl
@[simp] theorem el29 : elem? Tryz.prog 29 = some (31, 3, 56) := by kernel_rfl
@[simp] theorem ar29 : array? Tryz.prog 29 = none := by kernel_rfl
@[simp] theorem st29 : isStr Tryz.prog 29 = false := by kernel_rfl
@[simp] theorem ifc29 : isIface Tryz.prog 29 = some false := by kernel_rfl
@[simp] theorem zr29 : zero? Tryz.prog 29 = some (.cell (.pv (.sc (.slice none 0 0)))) := by kernel_rfl
@[simp] theorem un29 : Program.underlying Tryz.prog 29 = some (.slice 31) := by kernel_rfl
@[simp] theorem ag31 : isAgg? Tryz.prog 31 = some true := by kernel_rfl
@[simp] theorem sz31 : size? Tryz.prog 31 = some 3 := by kernel_rfl
@[simp] theorem el31 : elem? Tryz.prog 31 = none := by kernel_rfl
@[simp] theorem ar31 : array? Tryz.prog 31 = none := by kernel_rfl
@[simp] theorem st31 : isStr Tryz.prog 31 = false := by kernel_rfl
@[simp] theorem ifc31 : isIface Tryz.prog 31 = some false := by kernel_rfl
@[simp] theorem zr31 : zero? Tryz.prog 31 = some (.agg [.pv (.sc (.int .i64 0)), .pv (.sc (.slice none 0 0)), .pv (.sc (.slice none 0 0))]) := by kernel_rfl
@[simp] theorem pl31 : place? Tryz.prog 31 = some (fun i => ([(0, 1), (1, 1), (2, 1)] : List (Nat × Nat))[i]?) := by kernel_rfl
@[simp] theorem ag33 : isAgg? Tryz.prog 33 = some false := by kernel_rfl
@[simp] theorem sz33 : size? Tryz.prog 33 = some 1 := by kernel_rfl
@[simp] theorem el33 : elem? Tryz.prog 33 = none := by kernel_rfl
@[simp] theorem ar33 : array? Tryz.prog 33 = none := by kernel_rfl
@[simp] theorem st33 : isStr Tryz.prog 33 = false := by kernel_rfl
@[simp] theorem ifc33 : isIface Tryz.prog 33 = some false := by kernel_rfl
@[simp] theorem zr33 : zero? Tryz.prog 33 = some (.cell (.pv (.sc (.int .i64 0)))) := by kernel_rfl
@[simp] theorem un33 : Program.underlying Tryz.prog 33 = some (.int .i64) := by kernel_rfl
@[simp] theorem ag36 : isAgg? Tryz.prog 36 = some false := by kernel_rfl
@[simp] theorem sz36 : size? Tryz.prog 36 = some 1 := by kernel_rfl
@[simp] theorem el36 : elem? Tryz.prog 36 = none := by kernel_rfl
@[simp] theorem ar36 : array? Tryz.prog 36 = none := by kernel_rfl
@[simp] theorem st36 : isStr Tryz.prog 36 = false := by kernel_rfl
@[simp] theorem ifc36 : isIface Tryz.prog 36 = some false := by kernel_rfl
@[simp] theorem zr36 : zero? Tryz.prog 36 = some (.cell (.pv (.sc .nilFunc))) := by kernel_rfl
@[simp] theorem ag54 : isAgg? Tryz.prog 54 = some false := by kernel_rfl
@[simp] theorem sz54 : size? Tryz.prog 54 = some 1 := by kernel_rfl
@[simp] theorem el54 : elem? Tryz.prog 54 = none := by kernel_rfl
@[simp] theorem ar54 : array? Tryz.prog 54 = none := by kernel_rfl
@[simp] theorem st54 : isStr Tryz.prog 54 = false := by kernel_rfl
@[simp] theorem ifc54 : isIface Tryz.prog 54 = some false := by kernel_rfl
@[simp] theorem zr54 : zero? Tryz.prog 54 = some (.cell (.pv (.sc .nilFunc))) := by kernel_rfl
@[simp] theorem ag59 : isAgg? Tryz.prog 59 = some false := by kernel_rfl
@[simp] theorem sz59 : size? Tryz.prog 59 = some 1 := by kernel_rfl
@[simp] theorem el59 : elem? Tryz.prog 59 = none := by kernel_rfl
@[simp] theorem ar59 : array? Tryz.prog 59 = none := by kernel_rfl
@[simp] theorem st59 : isStr Tryz.prog 59 = false := by kernel_rfl
@[simp] theorem ifc59 : isIface Tryz.prog 59 = some false := by kernel_rfl
@[simp] theorem zr59 : zero? Tryz.prog 59 = some (.cell (.pv (.sc .nilFunc))) := by kernel_rfl
@[simp] theorem ag79 : isAgg? Tryz.prog 79 = some false := by kernel_rfl
@[simp] theorem sz79 : size? Tryz.prog 79 = some 1 := by kernel_rfl
@[simp] theorem el79 : elem? Tryz.prog 79 = none := by kernel_rfl
@[simp] theorem ar79 : array? Tryz.prog 79 = none := by kernel_rfl
@[simp] theorem st79 : isStr Tryz.prog 79 = false := by kernel_rfl
@[simp] theorem ifc79 : isIface Tryz.prog 79 = some true := by kernel_rfl
@[simp] theorem zr79 : zero? Tryz.prog 79 = some (.cell (.pv (.sc .nilIface))) := by kernel_rfl
@[simp] theorem ag88 : isAgg? Tryz.prog 88 = some false := by kernel_rfl
@[simp] theorem sz88 : size? Tryz.prog 88 = some 1 := by kernel_rfl
@[simp] theorem el88 : elem? Tryz.prog 88 = none := by kernel_rfl
@[simp] theorem ar88 : array? Tryz.prog 88 = none := by kernel_rfl
@[simp] theorem st88 : isStr Tryz.prog 88 = false := by kernel_rfl
@[simp] theorem ifc88 : isIface Tryz.prog 88 = some false := by kernel_rfl
@[simp] theorem zr88 : zero? Tryz.prog 88 = some (.cell (.pv (.sc (.int .u64 0)))) := by kernel_rfl
@[simp] theorem un88 : Program.underlying Tryz.prog 88 = some (.int .u64) := by kernel_rfl
@[simp] theorem ag90 : isAgg? Tryz.prog 90 = some false := by kernel_rfl
@[simp] theorem sz90 : size? Tryz.prog 90 = some 1 := by kernel_rfl
@[simp] theorem el90 : elem? Tryz.prog 90 = some (5, 1, 1) := by kernel_rfl
@[simp] theorem ar90 : array? Tryz.prog 90 = none := by kernel_rfl
@[simp] theorem st90 : isStr Tryz.prog 90 = false := by kernel_rfl
@[simp] theorem ifc90 : isIface Tryz.prog 90 = some false := by kernel_rfl
@[simp] theorem zr90 : zero? Tryz.prog 90 = some (.cell (.pv (.sc (.slice none 0 0)))) := by kernel_rfl
@[simp] theorem un90 : Program.underlying Tryz.prog 90 = some (.slice 5) := by kernel_rfl
@[simp] theorem ag93 : isAgg? Tryz.prog 93 = some false := by kernel_rfl
@[simp] theorem sz93 : size? Tryz.prog 93 = some 1 := by kernel_rfl
@[simp] theorem el93 : elem? Tryz.prog 93 = none := by kernel_rfl
@[simp] theorem ar93 : array? Tryz.prog 93 = none := by kernel_rfl
@[simp] theorem st93 : isStr Tryz.prog 93 = false := by kernel_rfl
@[simp] theorem ifc93 : isIface Tryz.prog 93 = some false := by kernel_rfl
@[simp] theorem zr93 : zero? Tryz.prog 93 = some (.cell (.pv (.sc (.int .i64 0)))) := by kernel_rfl
@[simp] theorem un93 : Program.underlying Tryz.prog 93 = some (.int .i64) := by kernel_rfl
@[simp] theorem ag94 : isAgg? Tryz.prog 94 = some false := by kernel_rfl
@[simp] theorem sz94 : size? Tryz.prog 94 = some 1 := by kernel_rfl
@[simp] theorem el94 : elem? Tryz.prog 94 = none := by kernel_rfl
@[simp] theorem ar94 : array? Tryz.prog 94 = none := by kernel_rfl
@[simp] theorem st94 : isStr Tryz.prog 94 = false := by kernel_rfl
@[simp] theorem ifc94 : isIface Tryz.prog 94 = some false := by kernel_rfl
@[simp] theorem zr94 : zero? Tryz.prog 94 = some (.cell (.pv (.sc (.int .u64 0)))) := by kernel_rfl
@[simp] theorem un94 : Program.underlying Tryz.prog 94 = some (.int .u64) := by kernel_rfl
@[simp] theorem ag97 : isAgg? Tryz.prog 97 = some false := by kernel_rfl
@[simp] theorem sz97 : size? Tryz.prog 97 = some 1 := by kernel_rfl
@[simp] theorem el97 : elem? Tryz.prog 97 = none := by kernel_rfl
@[simp] theorem ar97 : array? Tryz.prog 97 = none := by kernel_rfl
@[simp] theorem st97 : isStr Tryz.prog 97 = false := by kernel_rfl
@[simp] theorem ifc97 : isIface Tryz.prog 97 = some false := by kernel_rfl
@[simp] theorem zr97 : zero? Tryz.prog 97 = some (.cell (.pv (.sc (.pointer none)))) := by kernel_rfl
@[simp] theorem ag102 : isAgg? Tryz.prog 102 = some true := by kernel_rfl
@[simp] theorem sz102 : size? Tryz.prog 102 = some 256 := by kernel_rfl
@[simp] theorem el102 : elem? Tryz.prog 102 = none := by kernel_rfl
@[simp] theorem ar102 : array? Tryz.prog 102 = some (256, 1, false) := by kernel_rfl
@[simp] theorem st102 : isStr Tryz.prog 102 = false := by kernel_rfl
@[simp] theorem ifc102 : isIface Tryz.prog 102 = some false := by kernel_rfl
@[simp] theorem pl102 : place? Tryz.prog 102 = some (fun i => some (i * 1, 1)) := by kernel_rfl
@[simp] theorem ag104 : isAgg? Tryz.prog 104 = some true := by kernel_rfl
@[simp] theorem sz104 : size? Tryz.prog 104 = some 2 := by kernel_rfl
@[simp] theorem el104 : elem? Tryz.prog 104 = none := by kernel_rfl
@[simp] theorem ar104 : array? Tryz.prog 104 = none := by kernel_rfl
@[simp] theorem st104 : isStr Tryz.prog 104 = false := by kernel_rfl
@[simp] theorem ifc104 : isIface Tryz.prog 104 = some false := by kernel_rfl
@[simp] theorem zr104 : zero? Tryz.prog 104 = some (.agg [.pv (.sc (.int .u8 0)), .pv (.sc (.int .u8 0))]) := by kernel_rfl
@[simp] theorem pl104 : place? Tryz.prog 104 = some (fun i => ([(0, 1), (1, 1)] : List (Nat × Nat))[i]?) := by kernel_rfl
@[simp] theorem ag105 : isAgg? Tryz.prog 105 = some true := by kernel_rfl
@[simp] theorem sz105 : size? Tryz.prog 105 = some 32 := by kernel_rfl
@[simp] theorem el105 : elem? Tryz.prog 105 = none := by kernel_rfl
@[simp] theorem ar105 : array? Tryz.prog 105 = some (16, 2, true) := by kernel_rfl
@[simp] theorem st105 : isStr Tryz.prog 105 = false := by kernel_rfl
@[simp] theorem ifc105 : isIface Tryz.prog 105 = some false := by kernel_rfl
@[simp] theorem zr105 : zero? Tryz.prog 105 = some (.agg [.pv (.sc (.int .u8 0)), .pv (.sc (.int .u8 0)), .pv (.sc (.int .u8 0)), .pv (.sc (.int .u8 0)), .pv (.sc (.int .u8 0)), .pv (.sc (.int .u8 0)), .pv (.sc (.int .u8 0)), .pv (.sc (.int .u8 0)), .pv (.sc (.int .u8 0)), .pv (.sc (.int .u8 0)), .pv (.sc (.int .u8 0)), .pv (.sc (.int .u8 0)), .pv (.sc (.int .u8 0)), .pv (.sc (.int .u8 0)), .pv (.sc (.int .u8 0)), .pv (.sc (.int .u8 0)), .pv (.sc (.int .u8 0)), .pv (.sc (.int .u8 0)), .pv (.sc (.int .u8 0)), .pv (.sc (.int .u8 0)), .pv (.sc (.int .u8 0)), .pv (.sc (.int .u8 0)), .pv (.sc (.int .u8 0)), .pv (.sc (.int .u8 0)), .pv (.sc (.int .u8 0)), .pv (.sc (.int .u8 0)), .pv (.sc (.int .u8 0)), .pv (.sc (.int .u8 0)), .pv (.sc (.int .u8 0)), .pv (.sc (.int .u8 0)), .pv (.sc (.int .u8 0)), .pv (.sc (.int .u8 0))]) := by kernel_rfl
@[simp] theorem pl105 : place? Tryz.prog 105 = some (fun i => some (i * 2, 2)) := by kernel_rfl
@[simp] theorem ag110 : isAgg? Tryz.prog 110 = some true := by kernel_rfl
@[simp] theorem sz110 : size? Tryz.prog 110 = some 3 := by kernel_rfl
@[simp] theorem el110 : elem? Tryz.prog 110 = none := by kernel_rfl
@[simp] theorem ar110 : array? Tryz.prog 110 = none := by kernel_rfl
@[simp] theorem st110 : isStr Tryz.prog 110 = false := by kernel_rfl
@[simp] theorem ifc110 : isIface Tryz.prog 110 = some false := by kernel_rfl
@[simp] theorem zr110 : zero? Tryz.prog 110 = some (.agg [.pv (.sc (.string ⟨#[]⟩)), .pv (.sc (.string ⟨#[]⟩)), .pv (.sc .nilIface)]) := by kernel_rfl
@[simp] theorem pl110 : place? Tryz.prog 110 = some (fun i => ([(0, 1), (1, 1), (2, 1)] : List (Nat × Nat))[i]?) := by kernel_rfl
@[simp] theorem ag112 : isAgg? Tryz.prog 112 = some true := by kernel_rfl
@[simp] theorem sz112 : size? Tryz.prog 112 = some 24 := by kernel_rfl
@[simp] theorem el112 : elem? Tryz.prog 112 = none := by kernel_rfl
@[simp] theorem ar112 : array? Tryz.prog 112 = some (24, 1, false) := by kernel_rfl
@[simp] theorem st112 : isStr Tryz.prog 112 = false := by kernel_rfl
@[simp] theorem ifc112 : isIface Tryz.prog 112 = some false := by kernel_rfl
@[simp] theorem zr112 : zero? Tryz.prog 112 = some (.agg [.pv (.sc (.int .u8 0)), .pv (.sc (.int .u8 0)), .pv (.sc (.int .u8 0)), .pv (.sc (.int .u8 0)), .pv (.sc (.int .u8 0)), .pv (.sc (.int .u8 0)), .pv (.sc (.int .u8 0)), .pv (.sc (.int .u8 0)), .pv (.sc (.int .u8 0)), .pv (.sc (.int .u8 0)), .pv (.sc (.int .u8 0)), .pv (.sc (.int .u8 0)), .pv (.sc (.int .u8 0)), .pv (.sc (.int .u8 0)), .pv (.sc (.int .u8 0)), .pv (.sc (.int .u8 0)), .pv (.sc (.int .u8 0)), .pv (.sc (.int .u8 0)), .pv (.sc (.int .u8 0)), .pv (.sc (.int .u8 0)), .pv (.sc (.int .u8 0)), .pv (.sc (.int .u8 0)), .pv (.sc (.int .u8 0)), .pv (.sc (.int .u8 0))]) := by kernel_rfl
@[simp] theorem pl112 : place? Tryz.prog 112 = some (fun i => some (i * 1, 1)) := by kernel_rfl
@[simp] theorem ag117 : isAgg? Tryz.prog 117 = some false := by kernel_rfl
@[simp] theorem sz117 : size? Tryz.prog 117 = some 1 := by kernel_rfl
@[simp] theorem el117 : elem? Tryz.prog 117 = none := by kernel_rfl
@[simp] theorem ar117 : array? Tryz.prog 117 = none := by kernel_rfl
@[simp] theorem st117 : isStr Tryz.prog 117 = false := by kernel_rfl
@[simp] theorem ifc117 : isIface Tryz.prog 117 = some false := by kernel_rfl
@[simp] theorem zr117 : zero? Tryz.prog 117 = some (.cell (.pv (.sc (.pointer none)))) := by kernel_rfl
@[simp] theorem ag118 : isAgg? Tryz.prog 118 = some false := by kernel_rfl
@[simp] theorem sz118 : size? Tryz.prog 118 = some 1 := by kernel_rfl
@[simp] theorem el118 : elem? Tryz.prog 118 = none := by kernel_rfl
@[simp] theorem ar118 : array? Tryz.prog 118 = none := by kernel_rfl
@[simp] theorem st118 : isStr Tryz.prog 118 = false := by kernel_rfl
@[simp] theorem ifc118 : isIface Tryz.prog 118 = some false := by kernel_rfl
@[simp] theorem zr118 : zero? Tryz.prog 118 = some (.cell (.pv (.sc (.pointer none)))) := by kernel_rfl
@[simp] theorem ag120 : isAgg? Tryz.prog 120 = some true := by kernel_rfl
@[simp] theorem sz120 : size? Tryz.prog 120 = some 1 := by kernel_rfl
@[simp] theorem el120 : elem? Tryz.prog 120 = none := by kernel_rfl
@[simp] theorem ar120 : array? Tryz.prog 120 = none := by kernel_rfl
@[simp] theorem st120 : isStr Tryz.prog 120 = false := by kernel_rfl
@[simp] theorem ifc120 : isIface Tryz.prog 120 = some false := by kernel_rfl
@[simp] theorem zr120 : zero? Tryz.prog 120 = some (.agg [.pv (.sc (.string ⟨#[]⟩))]) := by kernel_rfl
@[simp] theorem pl120 : place? Tryz.prog 120 = some (fun i => ([(0, 1)] : List (Nat × Nat))[i]?) := by kernel_rfl
@[simp] theorem ag123 : isAgg? Tryz.prog 123 = some true := by kernel_rfl
@[simp] theorem sz123 : size? Tryz.prog 123 = some 20 := by kernel_rfl
@[simp] theorem el123 : elem? Tryz.prog 123 = none := by kernel_rfl
@[simp] theorem ar123 : array? Tryz.prog 123 = some (20, 1, false) := by kernel_rfl
@[simp] theorem st123 : isStr Tryz.prog 123 = false := by kernel_rfl
@[simp] theorem ifc123 : isIface Tryz.prog 123 = some false := by kernel_rfl
@[simp] theorem zr123 : zero? Tryz.prog 123 = some (.agg [.pv (.sc (.int .u64 0)), .pv (.sc (.int .u64 0)), .pv (.sc (.int .u64 0)), .pv (.sc (.int .u64 0)), .pv (.sc (.int .u64 0)), .pv (.sc (.int .u64 0)), .pv (.sc (.int .u64 0)), .pv (.sc (.int .u64 0)), .pv (.sc (.int .u64 0)), .pv (.sc (.int .u64 0)), .pv (.sc (.int .u64 0)), .pv (.sc (.int .u64 0)), .pv (.sc (.int .u64 0)), .pv (.sc (.int .u64 0)), .pv (.sc (.int .u64 0)), .pv (.sc (.int .u64 0)), .pv (.sc (.int .u64 0)), .pv (.sc (.int .u64 0)), .pv (.sc (.int .u64 0)), .pv (.sc (.int .u64 0))]) := by kernel_rfl
@[simp] theorem pl123 : place? Tryz.prog 123 = some (fun i => some (i * 1, 1)) := by kernel_rfl
@[simp] theorem ag124 : isAgg? Tryz.prog 124 = some false := by kernel_rfl
@[simp] theorem sz124 : size? Tryz.prog 124 = some 1 := by kernel_rfl
@[simp] theorem el124 : elem? Tryz.prog 124 = none := by kernel_rfl
@[simp] theorem ar124 : array? Tryz.prog 124 = none := by kernel_rfl
@[simp] theorem st124 : isStr Tryz.prog 124 = false := by kernel_rfl
@[simp] theorem ifc124 : isIface Tryz.prog 124 = some false := by kernel_rfl
@[simp] theorem zr124 : zero? Tryz.prog 124 = some (.cell (.pv (.sc (.int .u32 0)))) := by kernel_rfl
@[simp] theorem un124 : Program.underlying Tryz.prog 124 = some (.int .u32) := by kernel_rfl
@[simp] theorem ag125 : isAgg? Tryz.prog 125 = some true := by kernel_rfl
@[simp] theorem sz125 : size? Tryz.prog 125 = some 65 := by kernel_rfl
@[simp] theorem el125 : elem? Tryz.prog 125 = none := by kernel_rfl
@[simp] theorem ar125 : array? Tryz.prog 125 = some (65, 1, false) := by kernel_rfl
@[simp] theorem st125 : isStr Tryz.prog 125 = false := by kernel_rfl
@[simp] theorem ifc125 : isIface Tryz.prog 125 = some false := by kernel_rfl
@[simp] theorem pl125 : place? Tryz.prog 125 = some (fun i => some (i * 1, 1)) := by kernel_rfl
@[simp] theorem ag128 : isAgg? Tryz.prog 128 = some true := by kernel_rfl
@[simp] theorem sz128 : size? Tryz.prog 128 = some 32 := by kernel_rfl
@[simp] theorem el128 : elem? Tryz.prog 128 = none := by kernel_rfl
@[simp] theorem ar128 : array? Tryz.prog 128 = some (32, 1, false) := by kernel_rfl
@[simp] theorem st128 : isStr Tryz.prog 128 = false := by kernel_rfl
@[simp] theorem ifc128 : isIface Tryz.prog 128 = some false := by kernel_rfl
@[simp] theorem zr128 : zero? Tryz.prog 128 = some (.agg [.pv (.sc (.int .u8 0)), .pv (.sc (.int .u8 0)), .pv (.sc (.int .u8 0)), .pv (.sc (.int .u8 0)), .pv (.sc (.int .u8 0)), .pv (.sc (.int .u8 0)), .pv (.sc (.int .u8 0)), .pv (.sc (.int .u8 0)), .pv (.sc (.int .u8 0)), .pv (.sc (.int .u8 0)), .pv (.sc (.int .u8 0)), .pv (.sc (.int .u8 0)), .pv (.sc (.int .u8 0)), .pv (.sc (.int .u8 0)), .pv (.sc (.int .u8 0)), .pv (.sc (.int .u8 0)), .pv (.sc (.int .u8 0)), .pv (.sc (.int .u8 0)), .pv (.sc (.int .u8 0)), .pv (.sc (.int .u8 0)), .pv (.sc (.int .u8 0)), .pv (.sc (.int .u8 0)), .pv (.sc (.int .u8 0)), .pv (.sc (.int .u8 0)), .pv (.sc (.int .u8 0)), .pv (.sc (.int .u8 0)), .pv (.sc (.int .u8 0)), .pv (.sc (.int .u8 0)), .pv (.sc (.int .u8 0)), .pv (.sc (.int .u8 0)), .pv (.sc (.int .u8 0)), .pv (.sc (.int .u8 0))]) := by kernel_rfl
@[simp] theorem pl128 : place? Tryz.prog 128 = some (fun i => some (i * 1, 1)) := by kernel_rfl
@[simp] theorem ag129 : isAgg? Tryz.prog 129 = some true := by kernel_rfl
@[simp] theorem sz129 : size? Tryz.prog 129 = some 64 := by kernel_rfl
@[simp] theorem el129 : elem? Tryz.prog 129 = none := by kernel_rfl
@[simp] theorem ar129 : array? Tryz.prog 129 = some (64, 1, false) := by kernel_rfl
@[simp] theorem st129 : isStr Tryz.prog 129 = false := by kernel_rfl
@[simp] theorem ifc129 : isIface Tryz.prog 129 = some false := by kernel_rfl
@[simp] theorem pl129 : place? Tryz.prog 129 = some (fun i => some (i * 1, 1)) := by kernel_rfl
@[simp] theorem fd26_0 : field? Tryz.prog 26 0 = some (0, 1, false) := by kernel_rfl
@[simp] theorem fd26_1 : field? Tryz.prog 26 1 = some (1, 1, false) := by kernel_rfl
@[simp] theorem fd26_2 : field? Tryz.prog 26 2 = some (2, 1, false) := by kernel_rfl
@[simp] theorem fd26_3 : field? Tryz.prog 26 3 = some (3, 1, false) := by kernel_rfl
@[simp] theorem fd26_4 : field? Tryz.prog 26 4 = some (4, 1, false) := by kernel_rfl
@[simp] theorem fd31_0 : field? Tryz.prog 31 0 = some (0, 1, false) := by kernel_rfl
@[simp] theorem fd31_1 : field? Tryz.prog 31 1 = some (1, 1, false) := by kernel_rfl
@[simp] theorem fd31_2 : field? Tryz.prog 31 2 = some (2, 1, false) := by kernel_rfl
@[simp] theorem fd104_0 : field? Tryz.prog 104 0 = some (0, 1, false) := by kernel_rfl
@[simp] theorem fd104_1 : field? Tryz.prog 104 1 = some (1, 1, false) := by kernel_rfl
@[simp] theorem en3 : enters Tryz.prog 3 = true := by kernel_rfl
@[simp] theorem en4 : enters Tryz.prog 4 = true := by kernel_rfl
@[simp] theorem en5 : enters Tryz.prog 5 = true := by kernel_rfl
@[simp] theorem en6 : enters Tryz.prog 6 = true := by kernel_rfl
@[simp] theorem en7 : enters Tryz.prog 7 = true := by kernel_rfl
@[simp] theorem en8 : enters Tryz.prog 8 = true := by kernel_rfl
@[simp] theorem en9 : enters Tryz.prog 9 = true := by kernel_rfl
@[simp] theorem en10 : enters Tryz.prog 10 = true := by kernel_rfl
@[simp] theorem en11 : enters Tryz.prog 11 = true := by kernel_rfl
@[simp] theorem en12 : enters Tryz.prog 12 = true := by kernel_rfl
@[simp] theorem en13 : enters Tryz.prog 13 = true := by kernel_rfl
@[simp] theorem en14 : enters Tryz.prog 14 = true := by kernel_rfl
@[simp] theorem en15 : enters Tryz.prog 15 = true := by kernel_rfl
@[simp] theorem en16 : enters Tryz.prog 16 = true := by kernel_rfl
@[simp] theorem en17 : enters Tryz.prog 17 = true := by kernel_rfl
@[simp] theorem en18 : enters Tryz.prog 18 = true := by kernel_rfl
@[simp] theorem en19 : enters Tryz.prog 19 = true := by kernel_rfl
@[simp] theorem en20 : enters Tryz.prog 20 = true := by kernel_rfl
@[simp] theorem en21 : enters Tryz.prog 21 = true := by kernel_rfl
@[simp] theorem en22 : enters Tryz.prog 22 = true := by kernel_rfl
@[simp] theorem en23 : enters Tryz.prog 23 = true := by kernel_rfl
@[simp] theorem en24 : enters Tryz.prog 24 = true := by kernel_rfl
@[simp] theorem en25 : enters Tryz.prog 25 = true := by kernel_rfl
@[simp] theorem en26 : enters Tryz.prog 26 = true := by kernel_rfl
@[simp] theorem en27 : enters Tryz.prog 27 = true := by kernel_rfl
@[simp] theorem en28 : enters Tryz.prog 28 = true := by kernel_rfl
@[simp] theorem en29 : enters Tryz.prog 29 = true := by kernel_rfl
@[simp] theorem en30 : enters Tryz.prog 30 = true := by kernel_rfl
@[simp] theorem en31 : enters Tryz.prog 31 = true := by kernel_rfl
@[simp] theorem en32 : enters Tryz.prog 32 = true := by kernel_rfl
@[simp] theorem en33 : enters Tryz.prog 33 = true := by kernel_rfl
@[simp] theorem en34 : enters Tryz.prog 34 = true := by kernel_rfl
@[simp] theorem en35 : enters Tryz.prog 35 = true := by kernel_rfl
@[simp] theorem en36 : enters Tryz.prog 36 = true := by kernel_rfl
@[simp] theorem en37 : enters Tryz.prog 37 = true := by kernel_rfl
@[simp] theorem en38 : enters Tryz.prog 38 = true := by kernel_rfl
@[simp] theorem en39 : enters Tryz.prog 39 = true := by kernel_rfl
@[simp] theorem en40 : enters Tryz.prog 40 = true := by kernel_rfl
@[simp] theorem en41 : enters Tryz.prog 41 = true := by kernel_rfl
@[simp] theorem en42 : enters Tryz.prog 42 = true := by kernel_rfl
@[simp] theorem en43 : enters Tryz.prog 43 = true := by kernel_rfl
@[simp] theorem en44 : enters Tryz.prog 44 = true := by kernel_rfl
@[simp] theorem en45 : enters Tryz.prog 45 = true := by kernel_rfl
@[simp] theorem en46 : enters Tryz.prog 46 = true := by kernel_rfl
@[simp] theorem en47 : enters Tryz.prog 47 = true := by kernel_rfl
@[simp] theorem en48 : enters Tryz.prog 48 = true := by kernel_rfl
@[simp] theorem en49 : enters Tryz.prog 49 = true := by kernel_rfl
@[simp] theorem en50 : enters Tryz.prog 50 = true := by kernel_rfl
@[simp] theorem en51 : enters Tryz.prog 51 = true := by kernel_rfl
@[simp] theorem en52 : enters Tryz.prog 52 = true := by kernel_rfl
@[simp] theorem en53 : enters Tryz.prog 53 = true := by kernel_rfl
@[simp] theorem en54 : enters Tryz.prog 54 = true := by kernel_rfl
@[simp] theorem en55 : enters Tryz.prog 55 = true := by kernel_rfl
@[simp] theorem en56 : enters Tryz.prog 56 = true := by kernel_rfl
@[simp] theorem en57 : enters Tryz.prog 57 = true := by kernel_rfl
@[simp] theorem en58 : enters Tryz.prog 58 = true := by kernel_rfl
@[simp] theorem en59 : enters Tryz.prog 59 = true := by kernel_rfl
@[simp] theorem en60 : enters Tryz.prog 60 = true := by kernel_rfl
@[simp] theorem en61 : enters Tryz.prog 61 = true := by kernel_rfl
@[simp] theorem en62 : enters Tryz.prog 62 = true := by kernel_rfl
@[simp] theorem en63 : enters Tryz.prog 63 = true := by kernel_rfl
@[simp] theorem en64 : enters Tryz.prog 64 = true := by kernel_rfl
@[simp] theorem en65 : enters Tryz.prog 65 = true := by kernel_rfl
@[simp] theorem en66 : enters Tryz.prog 66 = true := by kernel_rfl
@[simp] theorem en67 : enters Tryz.prog 67 = true := by kernel_rfl
@[simp] theorem en68 : enters Tryz.prog 68 = true := by kernel_rfl
@[simp] theorem en69 : enters Tryz.prog 69 = true := by kernel_rfl
@[simp] theorem en70 : enters Tryz.prog 70 = true := by kernel_rfl
@[simp] theorem en71 : enters Tryz.prog 71 = true := by kernel_rfl
@[simp] theorem en72 : enters Tryz.prog 72 = true := by kernel_rfl
@[simp] theorem en73 : enters Tryz.prog 73 = true := by kernel_rfl
@[simp] theorem en74 : enters Tryz.prog 74 = true := by kernel_rfl
@[simp] theorem en75 : enters Tryz.prog 75 = true := by kernel_rfl
@[simp] theorem en76 : enters Tryz.prog 76 = true := by kernel_rfl
@[simp] theorem en77 : enters Tryz.prog 77 = true := by kernel_rfl
@[simp] theorem en78 : enters Tryz.prog 78 = true := by kernel_rfl
@[simp] theorem en79 : enters Tryz.prog 79 = true := by kernel_rfl
@[simp] theorem en80 : enters Tryz.prog 80 = true := by kernel_rfl
@[simp] theorem en81 : enters Tryz.prog 81 = true := by kernel_rfl
@[simp] theorem en82 : enters Tryz.prog 82 = true := by kernel_rfl
@[simp] theorem en83 : enters Tryz.prog 83 = true := by kernel_rfl
@[simp] theorem en84 : enters Tryz.prog 84 = true := by kernel_rfl
@[simp] theorem en85 : enters Tryz.prog 85 = true := by kernel_rfl
@[simp] theorem en86 : enters Tryz.prog 86 = true := by kernel_rfl
@[simp] theorem en87 : enters Tryz.prog 87 = true := by kernel_rfl
@[simp] theorem en88 : enters Tryz.prog 88 = true := by kernel_rfl
@[simp] theorem en89 : enters Tryz.prog 89 = true := by kernel_rfl
@[simp] theorem en90 : enters Tryz.prog 90 = true := by kernel_rfl
@[simp] theorem en91 : enters Tryz.prog 91 = true := by kernel_rfl
@[simp] theorem en92 : enters Tryz.prog 92 = true := by kernel_rfl
@[simp] theorem en93 : enters Tryz.prog 93 = true := by kernel_rfl
@[simp] theorem en94 : enters Tryz.prog 94 = true := by kernel_rfl
@[simp] theorem en95 : enters Tryz.prog 95 = true := by kernel_rfl
@[simp] theorem en96 : enters Tryz.prog 96 = true := by kernel_rfl
@[simp] theorem en97 : enters Tryz.prog 97 = true := by kernel_rfl
@[simp] theorem en98 : enters Tryz.prog 98 = true := by kernel_rfl
@[simp] theorem en99 : enters Tryz.prog 99 = true := by kernel_rfl
@[simp] theorem en100 : enters Tryz.prog 100 = true := by kernel_rfl
@[simp] theorem en101 : enters Tryz.prog 101 = true := by kernel_rfl
@[simp] theorem en102 : enters Tryz.prog 102 = true := by kernel_rfl
@[simp] theorem en103 : enters Tryz.prog 103 = true := by kernel_rfl
@[simp] theorem en104 : enters Tryz.prog 104 = true := by kernel_rfl
@[simp] theorem en105 : enters Tryz.prog 105 = true := by kernel_rfl
@[simp] theorem en106 : enters Tryz.prog 106 = true := by kernel_rfl
@[simp] theorem en107 : enters Tryz.prog 107 = true := by kernel_rfl
@[simp] theorem en108 : enters Tryz.prog 108 = true := by kernel_rfl
@[simp] theorem en109 : enters Tryz.prog 109 = true := by kernel_rfl
@[simp] theorem en110 : enters Tryz.prog 110 = true := by kernel_rfl
@[simp] theorem en111 : enters Tryz.prog 111 = true := by kernel_rfl
@[simp] theorem en112 : enters Tryz.prog 112 = true := by kernel_rfl
@[simp] theorem en113 : enters Tryz.prog 113 = true := by kernel_rfl
@[simp] theorem en114 : enters Tryz.prog 114 = true := by kernel_rfl
@[simp] theorem en115 : enters Tryz.prog 115 = true := by kernel_rfl
@[simp] theorem en116 : enters Tryz.prog 116 = true := by kernel_rfl
@[simp] theorem en117 : enters Tryz.prog 117 = true := by kernel_rfl
@[simp] theorem en118 : enters Tryz.prog 118 = true := by kernel_rfl
@[simp] theorem en119 : enters Tryz.prog 119 = true := by kernel_rfl
@[simp] theorem en120 : enters Tryz.prog 120 = true := by kernel_rfl
@[simp] theorem en121 : enters Tryz.prog 121 = true := by kernel_rfl
@[simp] theorem en122 : enters Tryz.prog 122 = true := by kernel_rfl
@[simp] theorem en123 : enters Tryz.prog 123 = true := by kernel_rfl
@[simp] theorem en124 : enters Tryz.prog 124 = true := by kernel_rfl
theorem mixed : Tryz.prog.follows .mixedOrders = true := by kernel_rfl
end Abs
end Go.Proofs.YtkmhhboihgckcaaGreatDoor
