/-
  strconv.FormatInt to the base 16, of numbers below 128.
-/
import Derived.Test.YtpidpioifnnllaaGreatDoorCtG
import Derived.Lib.ConvBytes
import Derived.Laws.IdiomStrings
import Derived.Lib.AtoiErrMem
import Derived.Deep.QuietTactic
import Derived.BigQuiet
import Derived.WalkSmall
import Derived.IntWalk
import Derived.Laws.BytesArg
namespace Go.Proofs.YtpidpioifnnllaaGreatDoor
set_option linter.unusedSimpArgs false
set_option linter.unusedVariables false
open Go.RowKit
set_option maxHeartbeats 1000000 in
set_option maxRecDepth 100000 in
theorem tz16 (w:World) (hd:w.cell? ⟨7,15,none⟩=some (.int .u8 4)):Calls Tryz.prog 151 #[.int .u64 16] w fun e w'=>e=.returned (.int .i64 4)∧w'=w:=by
 have h1:bits BinOp.and IntKind.u64 16 (IntKind.u64.wrap (-16))=16:=by decide +kernel
 have h2:IntKind.u64.wrap (16*285870213051353865) / 288230376151711744=15:=by decide +kernel
 go_enter Tryz.func151,Tryz.ntmps151
 go_wp2
 go_ret
 exact ⟨rfl,rfl⟩
theorem qh4 {w:World} {o:Obj} {p:Addr} {v:Value} (h:w.cell? p=some v):(w.alloc o).cell? p=some v:=by
 rw[((Below.refl w.heap.size w).alloc (Nat.le_refl _) o).cell (World.block_lt_of_cell? _ _ h)]; exact h
set_option maxHeartbeats 1000000 in
set_option maxRecDepth 100000 in
theorem p2_16 (w:World):Calls Tryz.prog 150 #[.int .i64 16] w fun e w'=>e=.returned (.bool true)∧w'=w:=by
 have h1:bits BinOp.and IntKind.i64 16 15=0:=by decide +kernel
 go_enter Tryz.func150,Tryz.ntmps150
 go_wp2
 go_ret
 exact ⟨rfl,rfl⟩
theorem and15:∀ c:Fin 128,bits BinOp.and IntKind.u64 (c.val:Int) 15=((c.val % 16:Nat):Int):=by decide +kernel
def digs:ByteArray:=⟨#[48,49,50,51,52,53,54,55,56,57,97,98,99,100,101,102,103,104,105,106,107,108,109,110,111,112,113,114,115,116,117,118,119,120,121,122]⟩
def digN (c:Nat):Int:=((digs.data.toList.getD c 0).toNat:Int)
theorem dig_at (c:Nat) (h:c < digs.size):((digs[c]'h).toNat:Int)=digN c:=by
 unfold digN
 rw[List.getD_eq_getElem?_getD,List.getElem?_eq_getElem (by simpa using h)]
 rfl
set_option maxHeartbeats 1000000 in
set_option maxRecDepth 100000 in
theorem fb_a (c:Nat) (hc:c < 16) (w:World) (hd:w.cell? ⟨7,15,none⟩=some (.int .u8 4)):Calls Tryz.prog 131 #[.slice none 0 0,.int .u64 c,.int .i64 16,.bool false,.bool false] w fun e w'=>e=.returned (.tuple #[.slice none 0 0,.string (strOfNums [digN c])])∧Below w.heap.size w w':=by
 have hc':¬ (16:Int)≤(c:Int):=by omega
 go_enter Tryz.func131,Tryz.ntmps131
 go_wp2_with (go_at_call 150; refine (p2_16 _).mono ?_; rintro e w1 ⟨rfl,rfl⟩)
 go_wp2_with (go_at_call 151; refine (tz16 _ (qh4 hd)).mono ?_; rintro e w1 ⟨rfl,rfl⟩)
 refine wp_loop_rounds 1 ?_
 rw[rounds_succ]
 go_wp2
 rw[run_convert_bytes_arg _ 45 5 Tryz.underlying45 Tryz.underlying5 _ _ 1 _ [digN c] rfl (fun i hi=>by
  obtain rfl:i=0:=by omega
  rw[World.cell?_alloc_new]
  simp[Tryz.zeroCells166]
  exact dig_at c (by show c < 36; omega)) 9 Tryz.underlying9]
 simp only[Result.andThen]
 rw[Oper.upon_value]
 go_wp2
 go_ret2
 exact ⟨rfl,(Below.refl _ _).alloc (Nat.le_refl _) _⟩
set_option maxHeartbeats 1000000 in
set_option maxRecDepth 100000 in
theorem fb_b (c:Nat) (h0:16≤c) (hc:c < 128) (w:World) (hd:w.cell? ⟨7,15,none⟩=some (.int .u8 4)):Calls Tryz.prog 131 #[.slice none 0 0,.int .u64 c,.int .i64 16,.bool false,.bool false] w fun e w'=>e=.returned (.tuple #[.slice none 0 0,.string (strOfNums [digN (c / 16),digN (c % 16)])])∧Below w.heap.size w w':=by
 have hc':(16:Int)≤(c:Int):=by omega
 have hc2:¬ (16:Int)≤(c / 16:Int):=by omega
 have h3:bits BinOp.and IntKind.u64 c 15=((c % 16:Nat):Int):=and15 ⟨c,hc⟩
 have h4:c % 16 < 16:=Nat.mod_lt _ (by decide)
 go_enter Tryz.func131,Tryz.ntmps131
 go_wp2_with (go_at_call 150; refine (p2_16 _).mono ?_; rintro e w1 ⟨rfl,rfl⟩)
 go_wp2_with (go_at_call 151; refine (tz16 _ (qh4 hd)).mono ?_; rintro e w1 ⟨rfl,rfl⟩)
 refine wp_loop_rounds 2 ?_
 rw[rounds_succ]
 go_wp2
 rw[rounds_succ]
 go_wp2
 rw[run_convert_bytes_arg _ 45 5 Tryz.underlying45 Tryz.underlying5 _ _ 2 _ [digN (c / 16),digN (c % 16)] rfl (fun i hi=>by
  rw[World.cell?_alloc_new]
  rcases (show i=0∨i=1 by omega) with rfl | rfl
  ·simp[Tryz.zeroCells166]
   exact dig_at (c / 16) (by show _ < 36; omega)
  ·simp[Tryz.zeroCells166]
   exact dig_at (c % 16) (by show _ < 36; omega)) 9 Tryz.underlying9]
 simp only[Result.andThen]
 rw[Oper.upon_value]
 go_wp2
 go_ret2
 exact ⟨rfl,(Below.refl _ _).alloc (Nat.le_refl _) _⟩
def hexI (c:Nat):List Int:=if c < 16 then [digN c] else [digN (c / 16),digN (c % 16)]
theorem fb_any (c:Nat) (hc:c < 128) (w:World) (hd:w.cell? ⟨7,15,none⟩=some (.int .u8 4)):Calls Tryz.prog 131 #[.slice none 0 0,.int .u64 c,.int .i64 16,.bool false,.bool false] w fun e w'=>e=.returned (.tuple #[.slice none 0 0,.string (strOfNums (hexI c))])∧Below w.heap.size w w':=by
 unfold hexI
 by_cases h:c < 16
 ·rw[if_pos h]; exact fb_a c h w hd
 ·rw[if_neg h]; exact fb_b c (by omega) hc w hd
set_option maxHeartbeats 1000000 in
set_option maxRecDepth 100000 in
theorem fmtI (c:Nat) (hc:c < 128) (w:World) (hd:w.cell? ⟨7,15,none⟩=some (.int .u8 4)):Calls Tryz.prog 110 #[.int .i64 c,.int .i64 16] w fun e w'=>e=.returned (.string (strOfNums (hexI c)))∧Below w.heap.size w w':=by
 have F:=fb_any c hc w hd
 generalize strOfNums (hexI c)=S at F ⊢
 have HF:=Lib.hid F
 clear F
 have h1:¬ (c:Int) < 0:=by omega
 go_enter Tryz.func110,Tryz.ntmps110
 go_wp2_with (go_at_call 131; refine HF.out.mono ?_; rintro e w1 ⟨rfl,hb⟩)
 go_wp2
 go_ret
 exact ⟨rfl,hb⟩
set_option maxHeartbeats 1000000 in
set_option maxRecDepth 100000 in
theorem fmt16 (c:Nat) (hc:c < 128) (w:World) (hd:w.cell? ⟨7,15,none⟩=some (.int .u8 4)):Calls Tryz.prog 85 #[.int .i64 c,.int .i64 16] w fun e w'=>e=.returned (.string (strOfNums (hexI c)))∧Below w.heap.size w w':=by
 have F:=fmtI c hc w hd
 generalize strOfNums (hexI c)=S at F ⊢
 have HF:=Lib.hid F
 clear F
 go_enter Tryz.func85,Tryz.ntmps85
 go_wp2_with (go_at_call 110; refine HF.out.mono ?_; rintro e w1 ⟨rfl,hb⟩)
 go_wp2
 go_ret
 exact ⟨rfl,hb⟩
end Go.Proofs.YtpidpioifnnllaaGreatDoor
