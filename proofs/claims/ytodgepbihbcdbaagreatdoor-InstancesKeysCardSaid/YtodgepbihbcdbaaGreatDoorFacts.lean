/-
  What the evaluator asks of the program's types.
-/
import Derived.Test.YtodgepbihbcdbaaGreatDoorAbsT
import Derived.Test.YtodgepbihbcdbaaGreatDoorProg
import Derived.KernelRfl
namespace Go.Proofs.YtodgepbihbcdbaaGreatDoor
namespace Abs
@[simp] theorem ag2 : isAgg? Tryz.prog 2 = some false := by kernel_rfl
@[simp] theorem sz2 : size? Tryz.prog 2 = some 1 := by kernel_rfl
@[simp] theorem el2 : elem? Tryz.prog 2 = none := by kernel_rfl
@[simp] theorem ar2 : array? Tryz.prog 2 = none := by kernel_rfl
@[simp] theorem st2 : isStr Tryz.prog 2 = false := by kernel_rfl
@[simp] theorem ifc2 : isIface Tryz.prog 2 = some false := by kernel_rfl
@[simp] theorem zr2 : zero? Tryz.prog 2 = some (.cell (.pv (.sc (.int .i64 0)))) := by kernel_rfl
@[simp] theorem un2 : Program.underlying Tryz.prog 2 = some (.int .i64) := by kernel_rfl
@[simp] theorem ag3 : isAgg? Tryz.prog 3 = some false := by kernel_rfl
@[simp] theorem sz3 : size? Tryz.prog 3 = some 1 := by kernel_rfl
@[simp] theorem el3 : elem? Tryz.prog 3 = none := by kernel_rfl
@[simp] theorem ar3 : array? Tryz.prog 3 = none := by kernel_rfl
@[simp] theorem st3 : isStr Tryz.prog 3 = false := by kernel_rfl
@[simp] theorem ifc3 : isIface Tryz.prog 3 = some false := by kernel_rfl
@[simp] theorem zr3 : zero? Tryz.prog 3 = some (.cell (.pv (.sc (.int .i64 0)))) := by kernel_rfl
@[simp] theorem un3 : Program.underlying Tryz.prog 3 = some (.int .i64) := by kernel_rfl
@[simp] theorem ag4 : isAgg? Tryz.prog 4 = some false := by kernel_rfl
@[simp] theorem sz4 : size? Tryz.prog 4 = some 1 := by kernel_rfl
@[simp] theorem el4 : elem? Tryz.prog 4 = none := by kernel_rfl
@[simp] theorem ar4 : array? Tryz.prog 4 = none := by kernel_rfl
@[simp] theorem st4 : isStr Tryz.prog 4 = false := by kernel_rfl
@[simp] theorem ifc4 : isIface Tryz.prog 4 = some false := by kernel_rfl
@[simp] theorem zr4 : zero? Tryz.prog 4 = some (.cell (.pv (.sc (.bool false)))) := by kernel_rfl
@[simp] theorem un4 : Program.underlying Tryz.prog 4 = some .bool := by kernel_rfl
@[simp] theorem ag5 : isAgg? Tryz.prog 5 = some false := by kernel_rfl
@[simp] theorem sz5 : size? Tryz.prog 5 = some 1 := by kernel_rfl
@[simp] theorem el5 : elem? Tryz.prog 5 = none := by kernel_rfl
@[simp] theorem ar5 : array? Tryz.prog 5 = none := by kernel_rfl
@[simp] theorem st5 : isStr Tryz.prog 5 = false := by kernel_rfl
@[simp] theorem ifc5 : isIface Tryz.prog 5 = some false := by kernel_rfl
@[simp] theorem zr5 : zero? Tryz.prog 5 = some (.cell (.pv (.sc (.int .u8 0)))) := by kernel_rfl
@[simp] theorem un5 : Program.underlying Tryz.prog 5 = some (.int .u8) := by kernel_rfl
@[simp] theorem ag9 : isAgg? Tryz.prog 9 = some false := by kernel_rfl
@[simp] theorem sz9 : size? Tryz.prog 9 = some 1 := by kernel_rfl
@[simp] theorem el9 : elem? Tryz.prog 9 = none := by kernel_rfl
@[simp] theorem ar9 : array? Tryz.prog 9 = none := by kernel_rfl
@[simp] theorem st9 : isStr Tryz.prog 9 = true := by kernel_rfl
@[simp] theorem ifc9 : isIface Tryz.prog 9 = some false := by kernel_rfl
@[simp] theorem zr9 : zero? Tryz.prog 9 = some (.cell (.pv (.sc (.string ⟨#[]⟩)))) := by kernel_rfl
@[simp] theorem un9 : Program.underlying Tryz.prog 9 = some .string := by kernel_rfl
@[simp] theorem ag12 : isAgg? Tryz.prog 12 = some false := by kernel_rfl
@[simp] theorem sz12 : size? Tryz.prog 12 = some 1 := by kernel_rfl
@[simp] theorem el12 : elem? Tryz.prog 12 = none := by kernel_rfl
@[simp] theorem ar12 : array? Tryz.prog 12 = none := by kernel_rfl
@[simp] theorem st12 : isStr Tryz.prog 12 = false := by kernel_rfl
@[simp] theorem ifc12 : isIface Tryz.prog 12 = some false := by kernel_rfl
@[simp] theorem zr12 : zero? Tryz.prog 12 = some (.cell (.pv (.sc (.int .u64 0)))) := by kernel_rfl
@[simp] theorem un12 : Program.underlying Tryz.prog 12 = some (.int .u64) := by kernel_rfl
@[simp] theorem ag21 : isAgg? Tryz.prog 21 = some false := by kernel_rfl
@[simp] theorem sz21 : size? Tryz.prog 21 = some 1 := by kernel_rfl
@[simp] theorem el21 : elem? Tryz.prog 21 = none := by kernel_rfl
@[simp] theorem ar21 : array? Tryz.prog 21 = none := by kernel_rfl
@[simp] theorem st21 : isStr Tryz.prog 21 = false := by kernel_rfl
@[simp] theorem ifc21 : isIface Tryz.prog 21 = some false := by kernel_rfl
@[simp] theorem zr21 : zero? Tryz.prog 21 = some (.cell (.pv (.sc (.int .i32 0)))) := by kernel_rfl
@[simp] theorem un21 : Program.underlying Tryz.prog 21 = some (.int .i32) := by kernel_rfl
@[simp] theorem ag22 : isAgg? Tryz.prog 22 = some false := by kernel_rfl
@[simp] theorem sz22 : size? Tryz.prog 22 = some 1 := by kernel_rfl
@[simp] theorem el22 : elem? Tryz.prog 22 = none := by kernel_rfl
@[simp] theorem ar22 : array? Tryz.prog 22 = none := by kernel_rfl
@[simp] theorem st22 : isStr Tryz.prog 22 = false := by kernel_rfl
@[simp] theorem ifc22 : isIface Tryz.prog 22 = some false := by kernel_rfl
@[simp] theorem zr22 : zero? Tryz.prog 22 = some (.cell (.pv (.sc (.int .i64 0)))) := by kernel_rfl
@[simp] theorem un22 : Program.underlying Tryz.prog 22 = some (.int .i64) := by kernel_rfl
@[simp] theorem ag23 : isAgg? Tryz.prog 23 = some false := by kernel_rfl
@[simp] theorem sz23 : size? Tryz.prog 23 = some 1 := by kernel_rfl
@[simp] theorem el23 : elem? Tryz.prog 23 = some (26, 5, 80) := by kernel_rfl
@[simp] theorem ar23 : array? Tryz.prog 23 = none := by kernel_rfl
@[simp] theorem st23 : isStr Tryz.prog 23 = false := by kernel_rfl
@[simp] theorem ifc23 : isIface Tryz.prog 23 = some false := by kernel_rfl
@[simp] theorem zr23 : zero? Tryz.prog 23 = some (.cell (.pv (.sc (.slice none 0 0)))) := by kernel_rfl
@[simp] theorem un23 : Program.underlying Tryz.prog 23 = some (.slice 26) := by kernel_rfl
@[simp] theorem ag24 : isAgg? Tryz.prog 24 = some false := by kernel_rfl
@[simp] theorem sz24 : size? Tryz.prog 24 = some 1 := by kernel_rfl
@[simp] theorem el24 : elem? Tryz.prog 24 = some (9, 1, 16) := by kernel_rfl
@[simp] theorem ar24 : array? Tryz.prog 24 = none := by kernel_rfl
@[simp] theorem st24 : isStr Tryz.prog 24 = false := by kernel_rfl
@[simp] theorem ifc24 : isIface Tryz.prog 24 = some false := by kernel_rfl
@[simp] theorem zr24 : zero? Tryz.prog 24 = some (.cell (.pv (.sc (.slice none 0 0)))) := by kernel_rfl
@[simp] theorem un24 : Program.underlying Tryz.prog 24 = some (.slice 9) := by kernel_rfl
@[simp] theorem ag26 : isAgg? Tryz.prog 26 = some true := by kernel_rfl
@[simp] theorem sz26 : size? Tryz.prog 26 = some 5 := by kernel_rfl
@[simp] theorem el26 : elem? Tryz.prog 26 = none := by kernel_rfl
@[simp] theorem ar26 : array? Tryz.prog 26 = none := by kernel_rfl
@[simp] theorem st26 : isStr Tryz.prog 26 = false := by kernel_rfl
@[simp] theorem ifc26 : isIface Tryz.prog 26 = some false := by kernel_rfl
@[simp] theorem zr26 : zero? Tryz.prog 26 = some (.agg [.pv (.sc (.int .i64 0)), .pv (.sc (.int .i64 0)), .pv (.sc (.string ⟨#[]⟩)), .pv (.sc (.slice none 0 0)), .pv (.sc (.slice none 0 0))]) := by kernel_rfl
@[simp] theorem pl26 : place? Tryz.prog 26 = some (fun i => ([(0, 1), (1, 1), (2, 1), (3, 1), (4, 1)] : List (Nat × Nat))[i]?) := by kernel_rfl
@[simp] theorem ag27 : isAgg? Tryz.prog 27 = some false := by kernel_rfl
@[simp] theorem sz27 : size? Tryz.prog 27 = some 1 := by kernel_rfl
@[simp] theorem el27 : elem? Tryz.prog 27 = none := by kernel_rfl
@[simp] theorem ar27 : array? Tryz.prog 27 = none := by kernel_rfl
@[simp] theorem st27 : isStr Tryz.prog 27 = false := by kernel_rfl
@[simp] theorem ifc27 : isIface Tryz.prog 27 = some false := by kernel_rfl
@[simp] theorem zr27 : zero? Tryz.prog 27 = some (.cell (.pv (.sc .nilFunc))) := by kernel_rfl
@[simp] theorem ag29 : isAgg? Tryz.prog 29 = some false := by kernel_rfl
@[simp] theorem sz29 : size? Tryz.prog 29 = some 1 := by kernel_rfl
@[simp] theorem el29 : elem? Tryz.prog 29 = some (38, 3, 32) := by kernel_rfl
@[simp] theorem ar29 : array? Tryz.prog 29 = none := by kernel_rfl
@[simp] theorem st29 : isStr Tryz.prog 29 = false := by kernel_rfl
@[simp] theorem ifc29 : isIface Tryz.prog 29 = some false := by kernel_rfl
@[simp] theorem zr29 : zero? Tryz.prog 29 = some (.cell (.pv (.sc (.slice none 0 0)))) := by kernel_rfl
@[simp] theorem un29 : Program.underlying Tryz.prog 29 = some (.slice 38) := by kernel_rfl
@[simp] theorem ag30 : isAgg? Tryz.prog 30 = some false := by kernel_rfl
@[simp] theorem sz30 : size? Tryz.prog 30 = some 1 := by kernel_rfl
@[simp] theorem el30 : elem? Tryz.prog 30 = none := by kernel_rfl
@[simp] theorem ar30 : array? Tryz.prog 30 = none := by kernel_rfl
@[simp] theorem st30 : isStr Tryz.prog 30 = false := by kernel_rfl
@[simp] theorem ifc30 : isIface Tryz.prog 30 = some false := by kernel_rfl
@[simp] theorem zr30 : zero? Tryz.prog 30 = some (.cell (.pv (.sc (.int .i64 0)))) := by kernel_rfl
@[simp] theorem un30 : Program.underlying Tryz.prog 30 = some (.int .i64) := by kernel_rfl
@[simp] theorem ag33 : isAgg? Tryz.prog 33 = some false := by kernel_rfl
@[simp] theorem sz33 : size? Tryz.prog 33 = some 1 := by kernel_rfl
@[simp] theorem el33 : elem? Tryz.prog 33 = none := by kernel_rfl
@[simp] theorem ar33 : array? Tryz.prog 33 = none := by kernel_rfl
@[simp] theorem st33 : isStr Tryz.prog 33 = false := by kernel_rfl
@[simp] theorem ifc33 : isIface Tryz.prog 33 = some false := by kernel_rfl
@[simp] theorem zr33 : zero? Tryz.prog 33 = some (.cell (.pv (.sc (.int .i64 0)))) := by kernel_rfl
@[simp] theorem un33 : Program.underlying Tryz.prog 33 = some (.int .i64) := by kernel_rfl
@[simp] theorem ag36 : isAgg? Tryz.prog 36 = some false := by kernel_rfl
@[simp] theorem sz36 : size? Tryz.prog 36 = some 1 := by kernel_rfl
@[simp] theorem el36 : elem? Tryz.prog 36 = none := by kernel_rfl
@[simp] theorem ar36 : array? Tryz.prog 36 = none := by kernel_rfl
@[simp] theorem st36 : isStr Tryz.prog 36 = false := by kernel_rfl
@[simp] theorem ifc36 : isIface Tryz.prog 36 = some false := by kernel_rfl
@[simp] theorem zr36 : zero? Tryz.prog 36 = some (.cell (.pv (.sc (.int .i64 0)))) := by kernel_rfl
@[simp] theorem un36 : Program.underlying Tryz.prog 36 = some (.int .i64) := by kernel_rfl
@[simp] theorem ag38 : isAgg? Tryz.prog 38 = some true := by kernel_rfl
@[simp] theorem sz38 : size? Tryz.prog 38 = some 3 := by kernel_rfl
@[simp] theorem el38 : elem? Tryz.prog 38 = none := by kernel_rfl
@[simp] theorem ar38 : array? Tryz.prog 38 = none := by kernel_rfl
@[simp] theorem st38 : isStr Tryz.prog 38 = false := by kernel_rfl
@[simp] theorem ifc38 : isIface Tryz.prog 38 = some false := by kernel_rfl
@[simp] theorem zr38 : zero? Tryz.prog 38 = some (.agg [.pv (.sc (.int .i64 0)), .pv (.sc (.int .i64 0)), .pv (.sc (.string ⟨#[]⟩))]) := by kernel_rfl
@[simp] theorem pl38 : place? Tryz.prog 38 = some (fun i => ([(0, 1), (1, 1), (2, 1)] : List (Nat × Nat))[i]?) := by kernel_rfl
@[simp] theorem ag41 : isAgg? Tryz.prog 41 = some false := by kernel_rfl
@[simp] theorem sz41 : size? Tryz.prog 41 = some 1 := by kernel_rfl
@[simp] theorem el41 : elem? Tryz.prog 41 = none := by kernel_rfl
@[simp] theorem ar41 : array? Tryz.prog 41 = none := by kernel_rfl
@[simp] theorem st41 : isStr Tryz.prog 41 = false := by kernel_rfl
@[simp] theorem ifc41 : isIface Tryz.prog 41 = some false := by kernel_rfl
@[simp] theorem zr41 : zero? Tryz.prog 41 = some (.cell (.pv (.sc .nilFunc))) := by kernel_rfl
@[simp] theorem ag54 : isAgg? Tryz.prog 54 = some false := by kernel_rfl
@[simp] theorem sz54 : size? Tryz.prog 54 = some 1 := by kernel_rfl
@[simp] theorem el54 : elem? Tryz.prog 54 = some (80, 4, 48) := by kernel_rfl
@[simp] theorem ar54 : array? Tryz.prog 54 = none := by kernel_rfl
@[simp] theorem st54 : isStr Tryz.prog 54 = false := by kernel_rfl
@[simp] theorem ifc54 : isIface Tryz.prog 54 = some false := by kernel_rfl
@[simp] theorem zr54 : zero? Tryz.prog 54 = some (.cell (.pv (.sc (.slice none 0 0)))) := by kernel_rfl
@[simp] theorem un54 : Program.underlying Tryz.prog 54 = some (.slice 80) := by kernel_rfl
@[simp] theorem ag56 : isAgg? Tryz.prog 56 = some true := by kernel_rfl
@[simp] theorem sz56 : size? Tryz.prog 56 = some 7 := by kernel_rfl
@[simp] theorem el56 : elem? Tryz.prog 56 = none := by kernel_rfl
@[simp] theorem ar56 : array? Tryz.prog 56 = none := by kernel_rfl
@[simp] theorem st56 : isStr Tryz.prog 56 = false := by kernel_rfl
@[simp] theorem ifc56 : isIface Tryz.prog 56 = some false := by kernel_rfl
@[simp] theorem zr56 : zero? Tryz.prog 56 = some (.agg [.pv (.sc (.slice none 0 0)), .pv (.sc (.bool false)), .pv (.sc (.string ⟨#[]⟩)), .pv (.sc (.string ⟨#[]⟩)), .pv (.sc (.int .i64 0)), .pv (.sc (.int .i64 0)), .pv (.sc (.string ⟨#[]⟩))]) := by kernel_rfl
@[simp] theorem pl56 : place? Tryz.prog 56 = some (fun i => ([(0, 1), (1, 1), (2, 1), (3, 1), (4, 3)] : List (Nat × Nat))[i]?) := by kernel_rfl
@[simp] theorem ag80 : isAgg? Tryz.prog 80 = some true := by kernel_rfl
@[simp] theorem sz80 : size? Tryz.prog 80 = some 4 := by kernel_rfl
@[simp] theorem el80 : elem? Tryz.prog 80 = none := by kernel_rfl
@[simp] theorem ar80 : array? Tryz.prog 80 = none := by kernel_rfl
@[simp] theorem st80 : isStr Tryz.prog 80 = false := by kernel_rfl
@[simp] theorem ifc80 : isIface Tryz.prog 80 = some false := by kernel_rfl
@[simp] theorem zr80 : zero? Tryz.prog 80 = some (.agg [.pv (.sc (.string ⟨#[]⟩)), .pv (.sc (.int .i64 0)), .pv (.sc (.int .i64 0)), .pv (.sc (.string ⟨#[]⟩))]) := by kernel_rfl
@[simp] theorem pl80 : place? Tryz.prog 80 = some (fun i => ([(0, 1), (1, 3)] : List (Nat × Nat))[i]?) := by kernel_rfl
@[simp] theorem ag82 : isAgg? Tryz.prog 82 = some false := by kernel_rfl
@[simp] theorem sz82 : size? Tryz.prog 82 = some 1 := by kernel_rfl
@[simp] theorem el82 : elem? Tryz.prog 82 = none := by kernel_rfl
@[simp] theorem ar82 : array? Tryz.prog 82 = none := by kernel_rfl
@[simp] theorem st82 : isStr Tryz.prog 82 = false := by kernel_rfl
@[simp] theorem ifc82 : isIface Tryz.prog 82 = some false := by kernel_rfl
@[simp] theorem zr82 : zero? Tryz.prog 82 = some (.cell (.pv (.sc .nilFunc))) := by kernel_rfl
@[simp] theorem ag84 : isAgg? Tryz.prog 84 = some false := by kernel_rfl
@[simp] theorem sz84 : size? Tryz.prog 84 = some 1 := by kernel_rfl
@[simp] theorem el84 : elem? Tryz.prog 84 = none := by kernel_rfl
@[simp] theorem ar84 : array? Tryz.prog 84 = none := by kernel_rfl
@[simp] theorem st84 : isStr Tryz.prog 84 = false := by kernel_rfl
@[simp] theorem ifc84 : isIface Tryz.prog 84 = some false := by kernel_rfl
@[simp] theorem zr84 : zero? Tryz.prog 84 = some (.cell (.pv (.sc .nilFunc))) := by kernel_rfl
@[simp] theorem ag85 : isAgg? Tryz.prog 85 = some false := by kernel_rfl
@[simp] theorem sz85 : size? Tryz.prog 85 = some 1 := by kernel_rfl
@[simp] theorem el85 : elem? Tryz.prog 85 = none := by kernel_rfl
@[simp] theorem ar85 : array? Tryz.prog 85 = none := by kernel_rfl
@[simp] theorem st85 : isStr Tryz.prog 85 = false := by kernel_rfl
@[simp] theorem ifc85 : isIface Tryz.prog 85 = some false := by kernel_rfl
@[simp] theorem zr85 : zero? Tryz.prog 85 = some (.cell (.pv (.sc .nilFunc))) := by kernel_rfl
@[simp] theorem ag92 : isAgg? Tryz.prog 92 = some false := by kernel_rfl
@[simp] theorem sz92 : size? Tryz.prog 92 = some 1 := by kernel_rfl
@[simp] theorem el92 : elem? Tryz.prog 92 = none := by kernel_rfl
@[simp] theorem ar92 : array? Tryz.prog 92 = none := by kernel_rfl
@[simp] theorem st92 : isStr Tryz.prog 92 = false := by kernel_rfl
@[simp] theorem ifc92 : isIface Tryz.prog 92 = some false := by kernel_rfl
@[simp] theorem zr92 : zero? Tryz.prog 92 = some (.cell (.pv (.sc (.int .i64 0)))) := by kernel_rfl
@[simp] theorem un92 : Program.underlying Tryz.prog 92 = some (.int .i64) := by kernel_rfl
@[simp] theorem ag93 : isAgg? Tryz.prog 93 = some false := by kernel_rfl
@[simp] theorem sz93 : size? Tryz.prog 93 = some 1 := by kernel_rfl
@[simp] theorem el93 : elem? Tryz.prog 93 = some (95, 3, 56) := by kernel_rfl
@[simp] theorem ar93 : array? Tryz.prog 93 = none := by kernel_rfl
@[simp] theorem st93 : isStr Tryz.prog 93 = false := by kernel_rfl
@[simp] theorem ifc93 : isIface Tryz.prog 93 = some false := by kernel_rfl
@[simp] theorem zr93 : zero? Tryz.prog 93 = some (.cell (.pv (.sc (.slice none 0 0)))) := by kernel_rfl
@[simp] theorem un93 : Program.underlying Tryz.prog 93 = some (.slice 95) := by kernel_rfl
@[simp] theorem ag95 : isAgg? Tryz.prog 95 = some true := by kernel_rfl
@[simp] theorem sz95 : size? Tryz.prog 95 = some 3 := by kernel_rfl
@[simp] theorem el95 : elem? Tryz.prog 95 = none := by kernel_rfl
@[simp] theorem ar95 : array? Tryz.prog 95 = none := by kernel_rfl
@[simp] theorem st95 : isStr Tryz.prog 95 = false := by kernel_rfl
@[simp] theorem ifc95 : isIface Tryz.prog 95 = some false := by kernel_rfl
@[simp] theorem zr95 : zero? Tryz.prog 95 = some (.agg [.pv (.sc (.int .i64 0)), .pv (.sc (.slice none 0 0)), .pv (.sc (.slice none 0 0))]) := by kernel_rfl
@[simp] theorem pl95 : place? Tryz.prog 95 = some (fun i => ([(0, 1), (1, 1), (2, 1)] : List (Nat × Nat))[i]?) := by kernel_rfl
@[simp] theorem ag98 : isAgg? Tryz.prog 98 = some false := by kernel_rfl
@[simp] theorem sz98 : size? Tryz.prog 98 = some 1 := by kernel_rfl
@[simp] theorem el98 : elem? Tryz.prog 98 = none := by kernel_rfl
@[simp] theorem ar98 : array? Tryz.prog 98 = none := by kernel_rfl
@[simp] theorem st98 : isStr Tryz.prog 98 = false := by kernel_rfl
@[simp] theorem ifc98 : isIface Tryz.prog 98 = some false := by kernel_rfl
@[simp] theorem zr98 : zero? Tryz.prog 98 = some (.cell (.pv (.sc .nilFunc))) := by kernel_rfl
@[simp] theorem ag100 : isAgg? Tryz.prog 100 = some false := by kernel_rfl
@[simp] theorem sz100 : size? Tryz.prog 100 = some 1 := by kernel_rfl
@[simp] theorem el100 : elem? Tryz.prog 100 = some (3, 1, 8) := by kernel_rfl
@[simp] theorem ar100 : array? Tryz.prog 100 = none := by kernel_rfl
@[simp] theorem st100 : isStr Tryz.prog 100 = false := by kernel_rfl
@[simp] theorem ifc100 : isIface Tryz.prog 100 = some false := by kernel_rfl
@[simp] theorem zr100 : zero? Tryz.prog 100 = some (.cell (.pv (.sc (.slice none 0 0)))) := by kernel_rfl
@[simp] theorem un100 : Program.underlying Tryz.prog 100 = some (.slice 3) := by kernel_rfl
@[simp] theorem ag102 : isAgg? Tryz.prog 102 = some false := by kernel_rfl
@[simp] theorem sz102 : size? Tryz.prog 102 = some 1 := by kernel_rfl
@[simp] theorem el102 : elem? Tryz.prog 102 = none := by kernel_rfl
@[simp] theorem ar102 : array? Tryz.prog 102 = none := by kernel_rfl
@[simp] theorem st102 : isStr Tryz.prog 102 = false := by kernel_rfl
@[simp] theorem ifc102 : isIface Tryz.prog 102 = some false := by kernel_rfl
@[simp] theorem zr102 : zero? Tryz.prog 102 = some (.cell (.pv (.sc (.int .u64 0)))) := by kernel_rfl
@[simp] theorem un102 : Program.underlying Tryz.prog 102 = some (.int .u64) := by kernel_rfl
@[simp] theorem ag119 : isAgg? Tryz.prog 119 = some false := by kernel_rfl
@[simp] theorem sz119 : size? Tryz.prog 119 = some 1 := by kernel_rfl
@[simp] theorem el119 : elem? Tryz.prog 119 = none := by kernel_rfl
@[simp] theorem ar119 : array? Tryz.prog 119 = none := by kernel_rfl
@[simp] theorem st119 : isStr Tryz.prog 119 = false := by kernel_rfl
@[simp] theorem ifc119 : isIface Tryz.prog 119 = some false := by kernel_rfl
@[simp] theorem zr119 : zero? Tryz.prog 119 = some (.cell (.pv (.sc (.int .i64 0)))) := by kernel_rfl
@[simp] theorem un119 : Program.underlying Tryz.prog 119 = some (.int .i64) := by kernel_rfl
@[simp] theorem ag126 : isAgg? Tryz.prog 126 = some false := by kernel_rfl
@[simp] theorem sz126 : size? Tryz.prog 126 = some 1 := by kernel_rfl
@[simp] theorem el126 : elem? Tryz.prog 126 = none := by kernel_rfl
@[simp] theorem ar126 : array? Tryz.prog 126 = none := by kernel_rfl
@[simp] theorem st126 : isStr Tryz.prog 126 = false := by kernel_rfl
@[simp] theorem ifc126 : isIface Tryz.prog 126 = some false := by kernel_rfl
@[simp] theorem zr126 : zero? Tryz.prog 126 = some (.cell (.pv (.sc (.int .u32 0)))) := by kernel_rfl
@[simp] theorem un126 : Program.underlying Tryz.prog 126 = some (.int .u32) := by kernel_rfl
@[simp] theorem ag128 : isAgg? Tryz.prog 128 = some false := by kernel_rfl
@[simp] theorem sz128 : size? Tryz.prog 128 = some 1 := by kernel_rfl
@[simp] theorem el128 : elem? Tryz.prog 128 = none := by kernel_rfl
@[simp] theorem ar128 : array? Tryz.prog 128 = none := by kernel_rfl
@[simp] theorem st128 : isStr Tryz.prog 128 = false := by kernel_rfl
@[simp] theorem ifc128 : isIface Tryz.prog 128 = some false := by kernel_rfl
@[simp] theorem zr128 : zero? Tryz.prog 128 = some (.cell (.pv (.sc (.int .u64 0)))) := by kernel_rfl
@[simp] theorem un128 : Program.underlying Tryz.prog 128 = some (.int .u64) := by kernel_rfl
@[simp] theorem ag139 : isAgg? Tryz.prog 139 = some false := by kernel_rfl
@[simp] theorem sz139 : size? Tryz.prog 139 = some 1 := by kernel_rfl
@[simp] theorem el139 : elem? Tryz.prog 139 = none := by kernel_rfl
@[simp] theorem ar139 : array? Tryz.prog 139 = none := by kernel_rfl
@[simp] theorem st139 : isStr Tryz.prog 139 = false := by kernel_rfl
@[simp] theorem ifc139 : isIface Tryz.prog 139 = some false := by kernel_rfl
@[simp] theorem zr139 : zero? Tryz.prog 139 = some (.cell (.pv (.sc (.int .u64 0)))) := by kernel_rfl
@[simp] theorem un139 : Program.underlying Tryz.prog 139 = some (.int .u64) := by kernel_rfl
@[simp] theorem ag143 : isAgg? Tryz.prog 143 = some false := by kernel_rfl
@[simp] theorem sz143 : size? Tryz.prog 143 = some 1 := by kernel_rfl
@[simp] theorem el143 : elem? Tryz.prog 143 = none := by kernel_rfl
@[simp] theorem ar143 : array? Tryz.prog 143 = none := by kernel_rfl
@[simp] theorem st143 : isStr Tryz.prog 143 = false := by kernel_rfl
@[simp] theorem ifc143 : isIface Tryz.prog 143 = some false := by kernel_rfl
@[simp] theorem zr143 : zero? Tryz.prog 143 = some (.cell (.pv (.sc (.pointer none)))) := by kernel_rfl
@[simp] theorem ag148 : isAgg? Tryz.prog 148 = some false := by kernel_rfl
@[simp] theorem sz148 : size? Tryz.prog 148 = some 1 := by kernel_rfl
@[simp] theorem el148 : elem? Tryz.prog 148 = none := by kernel_rfl
@[simp] theorem ar148 : array? Tryz.prog 148 = none := by kernel_rfl
@[simp] theorem st148 : isStr Tryz.prog 148 = false := by kernel_rfl
@[simp] theorem ifc148 : isIface Tryz.prog 148 = some true := by kernel_rfl
@[simp] theorem zr148 : zero? Tryz.prog 148 = some (.cell (.pv (.sc .nilIface))) := by kernel_rfl
@[simp] theorem ag154 : isAgg? Tryz.prog 154 = some true := by kernel_rfl
@[simp] theorem sz154 : size? Tryz.prog 154 = some 256 := by kernel_rfl
@[simp] theorem el154 : elem? Tryz.prog 154 = none := by kernel_rfl
@[simp] theorem ar154 : array? Tryz.prog 154 = some (256, 1, false) := by kernel_rfl
@[simp] theorem st154 : isStr Tryz.prog 154 = false := by kernel_rfl
@[simp] theorem ifc154 : isIface Tryz.prog 154 = some false := by kernel_rfl
@[simp] theorem pl154 : place? Tryz.prog 154 = some (fun i => some (i * 1, 1)) := by kernel_rfl
@[simp] theorem ag156 : isAgg? Tryz.prog 156 = some true := by kernel_rfl
@[simp] theorem sz156 : size? Tryz.prog 156 = some 2 := by kernel_rfl
@[simp] theorem el156 : elem? Tryz.prog 156 = none := by kernel_rfl
@[simp] theorem ar156 : array? Tryz.prog 156 = none := by kernel_rfl
@[simp] theorem st156 : isStr Tryz.prog 156 = false := by kernel_rfl
@[simp] theorem ifc156 : isIface Tryz.prog 156 = some false := by kernel_rfl
@[simp] theorem zr156 : zero? Tryz.prog 156 = some (.agg [.pv (.sc (.int .u8 0)), .pv (.sc (.int .u8 0))]) := by kernel_rfl
@[simp] theorem pl156 : place? Tryz.prog 156 = some (fun i => ([(0, 1), (1, 1)] : List (Nat × Nat))[i]?) := by kernel_rfl
@[simp] theorem ag157 : isAgg? Tryz.prog 157 = some true := by kernel_rfl
@[simp] theorem sz157 : size? Tryz.prog 157 = some 32 := by kernel_rfl
@[simp] theorem el157 : elem? Tryz.prog 157 = none := by kernel_rfl
@[simp] theorem ar157 : array? Tryz.prog 157 = some (16, 2, true) := by kernel_rfl
@[simp] theorem st157 : isStr Tryz.prog 157 = false := by kernel_rfl
@[simp] theorem ifc157 : isIface Tryz.prog 157 = some false := by kernel_rfl
@[simp] theorem zr157 : zero? Tryz.prog 157 = some (.agg [.pv (.sc (.int .u8 0)), .pv (.sc (.int .u8 0)), .pv (.sc (.int .u8 0)), .pv (.sc (.int .u8 0)), .pv (.sc (.int .u8 0)), .pv (.sc (.int .u8 0)), .pv (.sc (.int .u8 0)), .pv (.sc (.int .u8 0)), .pv (.sc (.int .u8 0)), .pv (.sc (.int .u8 0)), .pv (.sc (.int .u8 0)), .pv (.sc (.int .u8 0)), .pv (.sc (.int .u8 0)), .pv (.sc (.int .u8 0)), .pv (.sc (.int .u8 0)), .pv (.sc (.int .u8 0)), .pv (.sc (.int .u8 0)), .pv (.sc (.int .u8 0)), .pv (.sc (.int .u8 0)), .pv (.sc (.int .u8 0)), .pv (.sc (.int .u8 0)), .pv (.sc (.int .u8 0)), .pv (.sc (.int .u8 0)), .pv (.sc (.int .u8 0)), .pv (.sc (.int .u8 0)), .pv (.sc (.int .u8 0)), .pv (.sc (.int .u8 0)), .pv (.sc (.int .u8 0)), .pv (.sc (.int .u8 0)), .pv (.sc (.int .u8 0)), .pv (.sc (.int .u8 0)), .pv (.sc (.int .u8 0))]) := by kernel_rfl
@[simp] theorem pl157 : place? Tryz.prog 157 = some (fun i => some (i * 2, 2)) := by kernel_rfl
@[simp] theorem ag163 : isAgg? Tryz.prog 163 = some false := by kernel_rfl
@[simp] theorem sz163 : size? Tryz.prog 163 = some 1 := by kernel_rfl
@[simp] theorem el163 : elem? Tryz.prog 163 = some (5, 1, 1) := by kernel_rfl
@[simp] theorem ar163 : array? Tryz.prog 163 = none := by kernel_rfl
@[simp] theorem st163 : isStr Tryz.prog 163 = false := by kernel_rfl
@[simp] theorem ifc163 : isIface Tryz.prog 163 = some false := by kernel_rfl
@[simp] theorem zr163 : zero? Tryz.prog 163 = some (.cell (.pv (.sc (.slice none 0 0)))) := by kernel_rfl
@[simp] theorem un163 : Program.underlying Tryz.prog 163 = some (.slice 5) := by kernel_rfl
@[simp] theorem ag164 : isAgg? Tryz.prog 164 = some false := by kernel_rfl
@[simp] theorem sz164 : size? Tryz.prog 164 = some 1 := by kernel_rfl
@[simp] theorem el164 : elem? Tryz.prog 164 = none := by kernel_rfl
@[simp] theorem ar164 : array? Tryz.prog 164 = none := by kernel_rfl
@[simp] theorem st164 : isStr Tryz.prog 164 = false := by kernel_rfl
@[simp] theorem ifc164 : isIface Tryz.prog 164 = some false := by kernel_rfl
@[simp] theorem zr164 : zero? Tryz.prog 164 = some (.cell (.pv (.sc (.int .i64 0)))) := by kernel_rfl
@[simp] theorem un164 : Program.underlying Tryz.prog 164 = some (.int .i64) := by kernel_rfl
@[simp] theorem ag167 : isAgg? Tryz.prog 167 = some false := by kernel_rfl
@[simp] theorem sz167 : size? Tryz.prog 167 = some 1 := by kernel_rfl
@[simp] theorem el167 : elem? Tryz.prog 167 = none := by kernel_rfl
@[simp] theorem ar167 : array? Tryz.prog 167 = none := by kernel_rfl
@[simp] theorem st167 : isStr Tryz.prog 167 = false := by kernel_rfl
@[simp] theorem ifc167 : isIface Tryz.prog 167 = some false := by kernel_rfl
@[simp] theorem zr167 : zero? Tryz.prog 167 = some (.cell (.pv (.sc (.pointer none)))) := by kernel_rfl
@[simp] theorem ag174 : isAgg? Tryz.prog 174 = some true := by kernel_rfl
@[simp] theorem sz174 : size? Tryz.prog 174 = some 3 := by kernel_rfl
@[simp] theorem el174 : elem? Tryz.prog 174 = none := by kernel_rfl
@[simp] theorem ar174 : array? Tryz.prog 174 = none := by kernel_rfl
@[simp] theorem st174 : isStr Tryz.prog 174 = false := by kernel_rfl
@[simp] theorem ifc174 : isIface Tryz.prog 174 = some false := by kernel_rfl
@[simp] theorem zr174 : zero? Tryz.prog 174 = some (.agg [.pv (.sc (.string ⟨#[]⟩)), .pv (.sc (.string ⟨#[]⟩)), .pv (.sc .nilIface)]) := by kernel_rfl
@[simp] theorem pl174 : place? Tryz.prog 174 = some (fun i => ([(0, 1), (1, 1), (2, 1)] : List (Nat × Nat))[i]?) := by kernel_rfl
@[simp] theorem ag176 : isAgg? Tryz.prog 176 = some true := by kernel_rfl
@[simp] theorem sz176 : size? Tryz.prog 176 = some 24 := by kernel_rfl
@[simp] theorem el176 : elem? Tryz.prog 176 = none := by kernel_rfl
@[simp] theorem ar176 : array? Tryz.prog 176 = some (24, 1, false) := by kernel_rfl
@[simp] theorem st176 : isStr Tryz.prog 176 = false := by kernel_rfl
@[simp] theorem ifc176 : isIface Tryz.prog 176 = some false := by kernel_rfl
@[simp] theorem zr176 : zero? Tryz.prog 176 = some (.agg [.pv (.sc (.int .u8 0)), .pv (.sc (.int .u8 0)), .pv (.sc (.int .u8 0)), .pv (.sc (.int .u8 0)), .pv (.sc (.int .u8 0)), .pv (.sc (.int .u8 0)), .pv (.sc (.int .u8 0)), .pv (.sc (.int .u8 0)), .pv (.sc (.int .u8 0)), .pv (.sc (.int .u8 0)), .pv (.sc (.int .u8 0)), .pv (.sc (.int .u8 0)), .pv (.sc (.int .u8 0)), .pv (.sc (.int .u8 0)), .pv (.sc (.int .u8 0)), .pv (.sc (.int .u8 0)), .pv (.sc (.int .u8 0)), .pv (.sc (.int .u8 0)), .pv (.sc (.int .u8 0)), .pv (.sc (.int .u8 0)), .pv (.sc (.int .u8 0)), .pv (.sc (.int .u8 0)), .pv (.sc (.int .u8 0)), .pv (.sc (.int .u8 0))]) := by kernel_rfl
@[simp] theorem pl176 : place? Tryz.prog 176 = some (fun i => some (i * 1, 1)) := by kernel_rfl
@[simp] theorem ag180 : isAgg? Tryz.prog 180 = some false := by kernel_rfl
@[simp] theorem sz180 : size? Tryz.prog 180 = some 1 := by kernel_rfl
@[simp] theorem el180 : elem? Tryz.prog 180 = none := by kernel_rfl
@[simp] theorem ar180 : array? Tryz.prog 180 = none := by kernel_rfl
@[simp] theorem st180 : isStr Tryz.prog 180 = false := by kernel_rfl
@[simp] theorem ifc180 : isIface Tryz.prog 180 = some false := by kernel_rfl
@[simp] theorem zr180 : zero? Tryz.prog 180 = some (.cell (.pv (.sc (.pointer none)))) := by kernel_rfl
@[simp] theorem ag181 : isAgg? Tryz.prog 181 = some false := by kernel_rfl
@[simp] theorem sz181 : size? Tryz.prog 181 = some 1 := by kernel_rfl
@[simp] theorem el181 : elem? Tryz.prog 181 = none := by kernel_rfl
@[simp] theorem ar181 : array? Tryz.prog 181 = none := by kernel_rfl
@[simp] theorem st181 : isStr Tryz.prog 181 = false := by kernel_rfl
@[simp] theorem ifc181 : isIface Tryz.prog 181 = some false := by kernel_rfl
@[simp] theorem zr181 : zero? Tryz.prog 181 = some (.cell (.pv (.sc (.pointer none)))) := by kernel_rfl
@[simp] theorem ag183 : isAgg? Tryz.prog 183 = some true := by kernel_rfl
@[simp] theorem sz183 : size? Tryz.prog 183 = some 1 := by kernel_rfl
@[simp] theorem el183 : elem? Tryz.prog 183 = none := by kernel_rfl
@[simp] theorem ar183 : array? Tryz.prog 183 = none := by kernel_rfl
@[simp] theorem st183 : isStr Tryz.prog 183 = false := by kernel_rfl
@[simp] theorem ifc183 : isIface Tryz.prog 183 = some false := by kernel_rfl
@[simp] theorem zr183 : zero? Tryz.prog 183 = some (.agg [.pv (.sc (.string ⟨#[]⟩))]) := by kernel_rfl
@[simp] theorem pl183 : place? Tryz.prog 183 = some (fun i => ([(0, 1)] : List (Nat × Nat))[i]?) := by kernel_rfl
@[simp] theorem ag185 : isAgg? Tryz.prog 185 = some true := by kernel_rfl
@[simp] theorem sz185 : size? Tryz.prog 185 = some 20 := by kernel_rfl
@[simp] theorem el185 : elem? Tryz.prog 185 = none := by kernel_rfl
@[simp] theorem ar185 : array? Tryz.prog 185 = some (20, 1, false) := by kernel_rfl
@[simp] theorem st185 : isStr Tryz.prog 185 = false := by kernel_rfl
@[simp] theorem ifc185 : isIface Tryz.prog 185 = some false := by kernel_rfl
@[simp] theorem zr185 : zero? Tryz.prog 185 = some (.agg [.pv (.sc (.int .u64 0)), .pv (.sc (.int .u64 0)), .pv (.sc (.int .u64 0)), .pv (.sc (.int .u64 0)), .pv (.sc (.int .u64 0)), .pv (.sc (.int .u64 0)), .pv (.sc (.int .u64 0)), .pv (.sc (.int .u64 0)), .pv (.sc (.int .u64 0)), .pv (.sc (.int .u64 0)), .pv (.sc (.int .u64 0)), .pv (.sc (.int .u64 0)), .pv (.sc (.int .u64 0)), .pv (.sc (.int .u64 0)), .pv (.sc (.int .u64 0)), .pv (.sc (.int .u64 0)), .pv (.sc (.int .u64 0)), .pv (.sc (.int .u64 0)), .pv (.sc (.int .u64 0)), .pv (.sc (.int .u64 0))]) := by kernel_rfl
@[simp] theorem pl185 : place? Tryz.prog 185 = some (fun i => some (i * 1, 1)) := by kernel_rfl
@[simp] theorem ag186 : isAgg? Tryz.prog 186 = some true := by kernel_rfl
@[simp] theorem sz186 : size? Tryz.prog 186 = some 65 := by kernel_rfl
@[simp] theorem el186 : elem? Tryz.prog 186 = none := by kernel_rfl
@[simp] theorem ar186 : array? Tryz.prog 186 = some (65, 1, false) := by kernel_rfl
@[simp] theorem st186 : isStr Tryz.prog 186 = false := by kernel_rfl
@[simp] theorem ifc186 : isIface Tryz.prog 186 = some false := by kernel_rfl
@[simp] theorem pl186 : place? Tryz.prog 186 = some (fun i => some (i * 1, 1)) := by kernel_rfl
@[simp] theorem ag187 : isAgg? Tryz.prog 187 = some true := by kernel_rfl
@[simp] theorem sz187 : size? Tryz.prog 187 = some 32 := by kernel_rfl
@[simp] theorem el187 : elem? Tryz.prog 187 = none := by kernel_rfl
@[simp] theorem ar187 : array? Tryz.prog 187 = some (32, 1, false) := by kernel_rfl
@[simp] theorem st187 : isStr Tryz.prog 187 = false := by kernel_rfl
@[simp] theorem ifc187 : isIface Tryz.prog 187 = some false := by kernel_rfl
@[simp] theorem zr187 : zero? Tryz.prog 187 = some (.agg [.pv (.sc (.int .u8 0)), .pv (.sc (.int .u8 0)), .pv (.sc (.int .u8 0)), .pv (.sc (.int .u8 0)), .pv (.sc (.int .u8 0)), .pv (.sc (.int .u8 0)), .pv (.sc (.int .u8 0)), .pv (.sc (.int .u8 0)), .pv (.sc (.int .u8 0)), .pv (.sc (.int .u8 0)), .pv (.sc (.int .u8 0)), .pv (.sc (.int .u8 0)), .pv (.sc (.int .u8 0)), .pv (.sc (.int .u8 0)), .pv (.sc (.int .u8 0)), .pv (.sc (.int .u8 0)), .pv (.sc (.int .u8 0)), .pv (.sc (.int .u8 0)), .pv (.sc (.int .u8 0)), .pv (.sc (.int .u8 0)), .pv (.sc (.int .u8 0)), .pv (.sc (.int .u8 0)), .pv (.sc (.int .u8 0)), .pv (.sc (.int .u8 0)), .pv (.sc (.int .u8 0)), .pv (.sc (.int .u8 0)), .pv (.sc (.int .u8 0)), .pv (.sc (.int .u8 0)), .pv (.sc (.int .u8 0)), .pv (.sc (.int .u8 0)), .pv (.sc (.int .u8 0)), .pv (.sc (.int .u8 0))]) := by kernel_rfl
@[simp] theorem pl187 : place? Tryz.prog 187 = some (fun i => some (i * 1, 1)) := by kernel_rfl
@[simp] theorem ag188 : isAgg? Tryz.prog 188 = some true := by kernel_rfl
@[simp] theorem sz188 : size? Tryz.prog 188 = some 64 := by kernel_rfl
@[simp] theorem el188 : elem? Tryz.prog 188 = none := by kernel_rfl
@[simp] theorem ar188 : array? Tryz.prog 188 = some (64, 1, false) := by kernel_rfl
@[simp] theorem st188 : isStr Tryz.prog 188 = false := by kernel_rfl
@[simp] theorem ifc188 : isIface Tryz.prog 188 = some false := by kernel_rfl
@[simp] theorem pl188 : place? Tryz.prog 188 = some (fun i => some (i * 1, 1)) := by kernel_rfl
@[simp] theorem fd26_0 : field? Tryz.prog 26 0 = some (0, 1, false) := by kernel_rfl
@[simp] theorem fd26_1 : field? Tryz.prog 26 1 = some (1, 1, false) := by kernel_rfl
@[simp] theorem fd26_2 : field? Tryz.prog 26 2 = some (2, 1, false) := by kernel_rfl
@[simp] theorem fd26_3 : field? Tryz.prog 26 3 = some (3, 1, false) := by kernel_rfl
@[simp] theorem fd26_4 : field? Tryz.prog 26 4 = some (4, 1, false) := by kernel_rfl
@[simp] theorem fd38_0 : field? Tryz.prog 38 0 = some (0, 1, false) := by kernel_rfl
@[simp] theorem fd38_1 : field? Tryz.prog 38 1 = some (1, 1, false) := by kernel_rfl
@[simp] theorem fd38_2 : field? Tryz.prog 38 2 = some (2, 1, false) := by kernel_rfl
@[simp] theorem fd56_0 : field? Tryz.prog 56 0 = some (0, 1, false) := by kernel_rfl
@[simp] theorem fd56_1 : field? Tryz.prog 56 1 = some (1, 1, false) := by kernel_rfl
@[simp] theorem fd56_2 : field? Tryz.prog 56 2 = some (2, 1, false) := by kernel_rfl
@[simp] theorem fd56_3 : field? Tryz.prog 56 3 = some (3, 1, false) := by kernel_rfl
@[simp] theorem fd56_4 : field? Tryz.prog 56 4 = some (4, 3, true) := by kernel_rfl
@[simp] theorem fd80_0 : field? Tryz.prog 80 0 = some (0, 1, false) := by kernel_rfl
@[simp] theorem fd80_1 : field? Tryz.prog 80 1 = some (1, 3, true) := by kernel_rfl
@[simp] theorem fd95_0 : field? Tryz.prog 95 0 = some (0, 1, false) := by kernel_rfl
@[simp] theorem fd95_1 : field? Tryz.prog 95 1 = some (1, 1, false) := by kernel_rfl
@[simp] theorem fd95_2 : field? Tryz.prog 95 2 = some (2, 1, false) := by kernel_rfl
@[simp] theorem fd156_0 : field? Tryz.prog 156 0 = some (0, 1, false) := by kernel_rfl
@[simp] theorem fd156_1 : field? Tryz.prog 156 1 = some (1, 1, false) := by kernel_rfl
@[simp] theorem en3 : enters Tryz.prog 3 = true := by kernel_rfl
@[simp] theorem en4 : enters Tryz.prog 4 = true := by kernel_rfl
@[simp] theorem en5 : enters Tryz.prog 5 = true := by kernel_rfl
@[simp] theorem en6 : enters Tryz.prog 6 = true := by kernel_rfl
@[simp] theorem en7 : enters Tryz.prog 7 = true := by kernel_rfl
@[simp] theorem en8 : enters Tryz.prog 8 = true := by kernel_rfl
@[simp] theorem en9 : enters Tryz.prog 9 = true := by kernel_rfl
@[simp] theorem en10 : enters Tryz.prog 10 = true := by kernel_rfl
@[simp] theorem en11 : enters Tryz.prog 11 = true := by kernel_rfl
@[simp] theorem en12 : enters Tryz.prog 12 = true := by kernel_rfl
@[simp] theorem en13 : enters Tryz.prog 13 = true := by kernel_rfl
@[simp] theorem en14 : enters Tryz.prog 14 = true := by kernel_rfl
@[simp] theorem en15 : enters Tryz.prog 15 = true := by kernel_rfl
@[simp] theorem en16 : enters Tryz.prog 16 = true := by kernel_rfl
@[simp] theorem en17 : enters Tryz.prog 17 = true := by kernel_rfl
@[simp] theorem en18 : enters Tryz.prog 18 = true := by kernel_rfl
@[simp] theorem en19 : enters Tryz.prog 19 = true := by kernel_rfl
@[simp] theorem en20 : enters Tryz.prog 20 = true := by kernel_rfl
@[simp] theorem en21 : enters Tryz.prog 21 = true := by kernel_rfl
@[simp] theorem en22 : enters Tryz.prog 22 = true := by kernel_rfl
@[simp] theorem en23 : enters Tryz.prog 23 = true := by kernel_rfl
@[simp] theorem en24 : enters Tryz.prog 24 = true := by kernel_rfl
@[simp] theorem en25 : enters Tryz.prog 25 = true := by kernel_rfl
@[simp] theorem en26 : enters Tryz.prog 26 = true := by kernel_rfl
@[simp] theorem en27 : enters Tryz.prog 27 = true := by kernel_rfl
@[simp] theorem en28 : enters Tryz.prog 28 = true := by kernel_rfl
@[simp] theorem en29 : enters Tryz.prog 29 = true := by kernel_rfl
@[simp] theorem en30 : enters Tryz.prog 30 = true := by kernel_rfl
@[simp] theorem en31 : enters Tryz.prog 31 = true := by kernel_rfl
@[simp] theorem en32 : enters Tryz.prog 32 = true := by kernel_rfl
@[simp] theorem en33 : enters Tryz.prog 33 = true := by kernel_rfl
@[simp] theorem en34 : enters Tryz.prog 34 = true := by kernel_rfl
@[simp] theorem en35 : enters Tryz.prog 35 = true := by kernel_rfl
@[simp] theorem en36 : enters Tryz.prog 36 = true := by kernel_rfl
@[simp] theorem en37 : enters Tryz.prog 37 = true := by kernel_rfl
@[simp] theorem en38 : enters Tryz.prog 38 = true := by kernel_rfl
@[simp] theorem en39 : enters Tryz.prog 39 = true := by kernel_rfl
@[simp] theorem en40 : enters Tryz.prog 40 = true := by kernel_rfl
@[simp] theorem en41 : enters Tryz.prog 41 = true := by kernel_rfl
@[simp] theorem en42 : enters Tryz.prog 42 = true := by kernel_rfl
@[simp] theorem en43 : enters Tryz.prog 43 = true := by kernel_rfl
@[simp] theorem en44 : enters Tryz.prog 44 = true := by kernel_rfl
@[simp] theorem en45 : enters Tryz.prog 45 = true := by kernel_rfl
@[simp] theorem en46 : enters Tryz.prog 46 = true := by kernel_rfl
@[simp] theorem en47 : enters Tryz.prog 47 = true := by kernel_rfl
@[simp] theorem en48 : enters Tryz.prog 48 = true := by kernel_rfl
@[simp] theorem en49 : enters Tryz.prog 49 = true := by kernel_rfl
@[simp] theorem en50 : enters Tryz.prog 50 = true := by kernel_rfl
@[simp] theorem en51 : enters Tryz.prog 51 = true := by kernel_rfl
@[simp] theorem en52 : enters Tryz.prog 52 = true := by kernel_rfl
@[simp] theorem en53 : enters Tryz.prog 53 = true := by kernel_rfl
@[simp] theorem en54 : enters Tryz.prog 54 = true := by kernel_rfl
@[simp] theorem en55 : enters Tryz.prog 55 = true := by kernel_rfl
@[simp] theorem en56 : enters Tryz.prog 56 = true := by kernel_rfl
@[simp] theorem en57 : enters Tryz.prog 57 = true := by kernel_rfl
@[simp] theorem en58 : enters Tryz.prog 58 = true := by kernel_rfl
@[simp] theorem en59 : enters Tryz.prog 59 = true := by kernel_rfl
@[simp] theorem en60 : enters Tryz.prog 60 = true := by kernel_rfl
@[simp] theorem en61 : enters Tryz.prog 61 = true := by kernel_rfl
@[simp] theorem en62 : enters Tryz.prog 62 = true := by kernel_rfl
@[simp] theorem en63 : enters Tryz.prog 63 = true := by kernel_rfl
@[simp] theorem en64 : enters Tryz.prog 64 = true := by kernel_rfl
@[simp] theorem en65 : enters Tryz.prog 65 = true := by kernel_rfl
@[simp] theorem en66 : enters Tryz.prog 66 = true := by kernel_rfl
@[simp] theorem en67 : enters Tryz.prog 67 = true := by kernel_rfl
@[simp] theorem en68 : enters Tryz.prog 68 = true := by kernel_rfl
@[simp] theorem en69 : enters Tryz.prog 69 = true := by kernel_rfl
@[simp] theorem en70 : enters Tryz.prog 70 = true := by kernel_rfl
@[simp] theorem en71 : enters Tryz.prog 71 = true := by kernel_rfl
@[simp] theorem en72 : enters Tryz.prog 72 = true := by kernel_rfl
@[simp] theorem en73 : enters Tryz.prog 73 = true := by kernel_rfl
@[simp] theorem en74 : enters Tryz.prog 74 = true := by kernel_rfl
@[simp] theorem en75 : enters Tryz.prog 75 = true := by kernel_rfl
@[simp] theorem en76 : enters Tryz.prog 76 = true := by kernel_rfl
@[simp] theorem en77 : enters Tryz.prog 77 = true := by kernel_rfl
@[simp] theorem en78 : enters Tryz.prog 78 = true := by kernel_rfl
@[simp] theorem en79 : enters Tryz.prog 79 = true := by kernel_rfl
@[simp] theorem en80 : enters Tryz.prog 80 = true := by kernel_rfl
@[simp] theorem en81 : enters Tryz.prog 81 = true := by kernel_rfl
@[simp] theorem en82 : enters Tryz.prog 82 = true := by kernel_rfl
@[simp] theorem en83 : enters Tryz.prog 83 = true := by kernel_rfl
@[simp] theorem en84 : enters Tryz.prog 84 = true := by kernel_rfl
@[simp] theorem en85 : enters Tryz.prog 85 = true := by kernel_rfl
@[simp] theorem en86 : enters Tryz.prog 86 = true := by kernel_rfl
@[simp] theorem en87 : enters Tryz.prog 87 = true := by kernel_rfl
@[simp] theorem en88 : enters Tryz.prog 88 = true := by kernel_rfl
@[simp] theorem en89 : enters Tryz.prog 89 = true := by kernel_rfl
@[simp] theorem en90 : enters Tryz.prog 90 = true := by kernel_rfl
@[simp] theorem en91 : enters Tryz.prog 91 = true := by kernel_rfl
@[simp] theorem en92 : enters Tryz.prog 92 = true := by kernel_rfl
@[simp] theorem en93 : enters Tryz.prog 93 = true := by kernel_rfl
@[simp] theorem en94 : enters Tryz.prog 94 = true := by kernel_rfl
@[simp] theorem en95 : enters Tryz.prog 95 = true := by kernel_rfl
@[simp] theorem en96 : enters Tryz.prog 96 = true := by kernel_rfl
@[simp] theorem en98 : enters Tryz.prog 98 = true := by kernel_rfl
@[simp] theorem en99 : enters Tryz.prog 99 = true := by kernel_rfl
@[simp] theorem en100 : enters Tryz.prog 100 = true := by kernel_rfl
@[simp] theorem en101 : enters Tryz.prog 101 = true := by kernel_rfl
@[simp] theorem en102 : enters Tryz.prog 102 = true := by kernel_rfl
@[simp] theorem en103 : enters Tryz.prog 103 = true := by kernel_rfl
@[simp] theorem en104 : enters Tryz.prog 104 = true := by kernel_rfl
@[simp] theorem en105 : enters Tryz.prog 105 = true := by kernel_rfl
@[simp] theorem en106 : enters Tryz.prog 106 = true := by kernel_rfl
@[simp] theorem en107 : enters Tryz.prog 107 = true := by kernel_rfl
@[simp] theorem en108 : enters Tryz.prog 108 = true := by kernel_rfl
@[simp] theorem en109 : enters Tryz.prog 109 = true := by kernel_rfl
@[simp] theorem en110 : enters Tryz.prog 110 = true := by kernel_rfl
@[simp] theorem en111 : enters Tryz.prog 111 = true := by kernel_rfl
@[simp] theorem en112 : enters Tryz.prog 112 = true := by kernel_rfl
@[simp] theorem en113 : enters Tryz.prog 113 = true := by kernel_rfl
@[simp] theorem en114 : enters Tryz.prog 114 = true := by kernel_rfl
@[simp] theorem en115 : enters Tryz.prog 115 = true := by kernel_rfl
@[simp] theorem en116 : enters Tryz.prog 116 = true := by kernel_rfl
@[simp] theorem en117 : enters Tryz.prog 117 = true := by kernel_rfl
@[simp] theorem en118 : enters Tryz.prog 118 = true := by kernel_rfl
@[simp] theorem en119 : enters Tryz.prog 119 = true := by kernel_rfl
@[simp] theorem en120 : enters Tryz.prog 120 = true := by kernel_rfl
@[simp] theorem en121 : enters Tryz.prog 121 = true := by kernel_rfl
@[simp] theorem en122 : enters Tryz.prog 122 = true := by kernel_rfl
@[simp] theorem en123 : enters Tryz.prog 123 = true := by kernel_rfl
@[simp] theorem en124 : enters Tryz.prog 124 = true := by kernel_rfl
@[simp] theorem en125 : enters Tryz.prog 125 = true := by kernel_rfl
@[simp] theorem en126 : enters Tryz.prog 126 = true := by kernel_rfl
@[simp] theorem en127 : enters Tryz.prog 127 = true := by kernel_rfl
@[simp] theorem en128 : enters Tryz.prog 128 = true := by kernel_rfl
@[simp] theorem en129 : enters Tryz.prog 129 = true := by kernel_rfl
@[simp] theorem en130 : enters Tryz.prog 130 = true := by kernel_rfl
@[simp] theorem en131 : enters Tryz.prog 131 = true := by kernel_rfl
@[simp] theorem en132 : enters Tryz.prog 132 = true := by kernel_rfl
@[simp] theorem en133 : enters Tryz.prog 133 = true := by kernel_rfl
@[simp] theorem en134 : enters Tryz.prog 134 = true := by kernel_rfl
@[simp] theorem en135 : enters Tryz.prog 135 = true := by kernel_rfl
@[simp] theorem en136 : enters Tryz.prog 136 = true := by kernel_rfl
@[simp] theorem en137 : enters Tryz.prog 137 = true := by kernel_rfl
@[simp] theorem en138 : enters Tryz.prog 138 = true := by kernel_rfl
@[simp] theorem en139 : enters Tryz.prog 139 = true := by kernel_rfl
@[simp] theorem en140 : enters Tryz.prog 140 = true := by kernel_rfl
@[simp] theorem en141 : enters Tryz.prog 141 = true := by kernel_rfl
@[simp] theorem en142 : enters Tryz.prog 142 = true := by kernel_rfl
@[simp] theorem en143 : enters Tryz.prog 143 = true := by kernel_rfl
@[simp] theorem en144 : enters Tryz.prog 144 = true := by kernel_rfl
@[simp] theorem en145 : enters Tryz.prog 145 = true := by kernel_rfl
@[simp] theorem en146 : enters Tryz.prog 146 = true := by kernel_rfl
@[simp] theorem en147 : enters Tryz.prog 147 = true := by kernel_rfl
@[simp] theorem en148 : enters Tryz.prog 148 = true := by kernel_rfl
@[simp] theorem en149 : enters Tryz.prog 149 = true := by kernel_rfl
@[simp] theorem en150 : enters Tryz.prog 150 = true := by kernel_rfl
@[simp] theorem en151 : enters Tryz.prog 151 = true := by kernel_rfl
@[simp] theorem en152 : enters Tryz.prog 152 = true := by kernel_rfl
@[simp] theorem en153 : enters Tryz.prog 153 = true := by kernel_rfl
@[simp] theorem en154 : enters Tryz.prog 154 = true := by kernel_rfl
@[simp] theorem en155 : enters Tryz.prog 155 = true := by kernel_rfl
@[simp] theorem en156 : enters Tryz.prog 156 = true := by kernel_rfl
@[simp] theorem en157 : enters Tryz.prog 157 = true := by kernel_rfl
@[simp] theorem en158 : enters Tryz.prog 158 = true := by kernel_rfl
@[simp] theorem en159 : enters Tryz.prog 159 = true := by kernel_rfl
@[simp] theorem en160 : enters Tryz.prog 160 = true := by kernel_rfl
@[simp] theorem en161 : enters Tryz.prog 161 = true := by kernel_rfl
@[simp] theorem en162 : enters Tryz.prog 162 = true := by kernel_rfl
@[simp] theorem en163 : enters Tryz.prog 163 = true := by kernel_rfl
@[simp] theorem en164 : enters Tryz.prog 164 = true := by kernel_rfl
@[simp] theorem en165 : enters Tryz.prog 165 = true := by kernel_rfl
@[simp] theorem en166 : enters Tryz.prog 166 = true := by kernel_rfl
@[simp] theorem en167 : enters Tryz.prog 167 = true := by kernel_rfl
@[simp] theorem en168 : enters Tryz.prog 168 = true := by kernel_rfl
@[simp] theorem en169 : enters Tryz.prog 169 = true := by kernel_rfl
@[simp] theorem en170 : enters Tryz.prog 170 = true := by kernel_rfl
@[simp] theorem en171 : enters Tryz.prog 171 = true := by kernel_rfl
@[simp] theorem en172 : enters Tryz.prog 172 = true := by kernel_rfl
@[simp] theorem en173 : enters Tryz.prog 173 = true := by kernel_rfl
@[simp] theorem en174 : enters Tryz.prog 174 = true := by kernel_rfl
@[simp] theorem en175 : enters Tryz.prog 175 = true := by kernel_rfl
@[simp] theorem en176 : enters Tryz.prog 176 = true := by kernel_rfl
@[simp] theorem en177 : enters Tryz.prog 177 = true := by kernel_rfl
@[simp] theorem en178 : enters Tryz.prog 178 = true := by kernel_rfl
theorem mixed : Tryz.prog.follows .mixedOrders = true := by kernel_rfl
end Abs
end Go.Proofs.YtodgepbihbcdbaaGreatDoor
