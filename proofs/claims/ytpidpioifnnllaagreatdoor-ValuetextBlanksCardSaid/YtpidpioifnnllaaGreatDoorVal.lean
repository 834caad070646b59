/-
  Values of the configuration language as a plain type, and what it means that a Go value holds one in memory.
-/
import Derived.Test.YtpidpioifnnllaaGreatDoorRows
import Derived.WalkKit
import Derived.WalkSpells
import Derived.WalkLawsBesides
import Derived.Lib.Hide
import Derived.Lib.IndexBytes
namespace Go.Proofs.YtpidpioifnnllaaGreatDoor
open Go.RowKit
inductive Val where
 | mk (kind num:Int) (str:ByteArray) (items:List Val) (keys:List ByteArray)
namespace Val
def kind:Val→Int | .mk k _ _ _ _=>k
def num:Val→Int | .mk _ n _ _ _=>n
def str:Val→ByteArray | .mk _ _ s _ _=>s
def items:Val→List Val | .mk _ _ _ l _=>l
def keys:Val→List ByteArray | .mk _ _ _ _ l=>l
theorem ind {p:Val→Prop} (h:∀ k n s items keys,(∀ x ∈ items,p x)→p (.mk k n s items keys)) (v:Val):p v :=
 Val.rec (motive_1:=p) (motive_2:=fun l=>∀ x ∈ l,p x) (fun k n s items keys ih=>h k n s items keys ih) (fun _ hx=>absurd hx List.not_mem_nil)
  (fun a l ha hl x hx=>by
   rcases List.mem_cons.1 hx with rfl | hx
   ·exact ha
   ·exact hl x hx) v
end Val
def q44 (w:World) (b off:Nat):List ByteArray→Prop
 | []=>True
 | s::r=>w.cell? ⟨b,off,none⟩=some (.string s)∧q44 w b (off+1) r
def q3s (w:World) (v:Value) (l:List ByteArray):Prop :=
 ∃ a cap,v=.slice a l.length cap∧l.length≤cap∧(l=[]∨∃ b off,a=some ⟨b,off,none⟩∧q44 w b off l)
mutual
/-- The Go value v holds the value x in the world w. -/
def q1l (w:World):Value→Val→Prop
 | v,.mk k n s items keys=>∃ vi vk,v=.agg #[.int .i64 k,.int .i64 n,.string s,vi,vk]∧q3s w vk keys ∧
   ∃ a cap,vi=.slice a items.length cap∧items.length≤cap∧(items=[]∨∃ b off,a=some ⟨b,off,none⟩∧q2h w b off items)
/-- The values l lie in memory from an address on,five cells each. -/
def q2h (w:World):Nat→Nat→List Val→Prop
 | _,_,[]=>True
 | b,off,x::r=>(∃ v0 v1 v2 v3 v4,w.cell? ⟨b,off,none⟩=some v0∧w.cell? ⟨b,off+1,none⟩=some v1∧w.cell? ⟨b,off+2,none⟩=some v2∧w.cell? ⟨b,off+3,none⟩=some v3∧w.cell? ⟨b,off+4,none⟩=some v4∧q1l w (.agg #[v0,v1,v2,v3,v4]) x)∧q2h w b (off+5) r
end
theorem q3v {w w2:World} {o:Obj} (k:Below (w.alloc o).heap.size (w.alloc o) w2):Below w.heap.size w w2:=((Below.refl _ w).alloc (Nat.le_refl _) o).trans (k.mono (by simp))
theorem q46 (w:World) (o:Obj):(w.alloc o).heap[w.heap.size]?=some o:=by
 show (w.heap.push o)[w.heap.size]?=_
 simp
theorem q4n {w w2:World} {o:Obj} (k:Below (w.alloc o).heap.size (w.alloc o) w2):w2.heap[w.heap.size]?=some o:=(k.block _ (by simp)).trans (q46 w o)
theorem ql2 {w:World} {b:Nat} {o:Obj} (h:w.heap[b]?=some o):b < w.heap.size:=by
 rcases Nat.lt_or_ge b w.heap.size with h' | h'
 ·exact h'
 ·simp[Array.getElem?_eq_none h']at h
theorem qah {w w2:World} {b:Nat} {o:Obj} (k:Below w.heap.size w w2) (h:w.heap[b]?=some o):w2.heap[b]?=some o:=(k.block _ (ql2 h)).trans h
theorem qe {w:World} {b:Nat} {cs:Array Value} {t:TypeId} {f:Nat×Nat} (h:w.heap[b]?=some (.cells cs t f)) (j:Nat):w.cell? ⟨b,j,none⟩=cs[j]?:=by simp[World.cell?,h]
theorem q22 {w:World} {b:Nat} {cs:Array Value} {t:TypeId} (h:w.heap[b]?=some (.cells cs t (0,0))) (j:Nat):w.frozen? ⟨b,j,none⟩=false:=by simp[World.frozen?,h]
theorem q2i {w w2:World} (k:Below w.heap.size w w2) {a:Addr} {v:Value} (h:w.cell? a=some v):w2.cell? a=some v:=by
 have:a.block < w.heap.size:=by
  rcases Nat.lt_or_ge a.block w.heap.size with h' | h'
  ·exact h'
  ·simp[World.cell?,Array.getElem?_eq_none h']at h
 rw[k.cell this]; exact h
theorem q44.keep {w w2:World} (k:Below w.heap.size w w2):∀ {l:List ByteArray} {b off:Nat},q44 w b off l→q44 w2 b off l
 | [],_,_,_=>trivial
 | _::_,_,_,h=>⟨q2i k h.1,q44.keep k h.2⟩
theorem q3s.keep {w w2:World} (k:Below w.heap.size w w2) {v:Value} {l:List ByteArray} (h:q3s w v l):q3s w2 v l:=by
 obtain ⟨a,cap,h1,h2,h3⟩:=h
 exact ⟨a,cap,h1,h2,h3.imp id fun ⟨b,off,e,h4⟩=>⟨b,off,e,h4.keep k⟩⟩
theorem q44.cell {w:World}:∀ {l:List ByteArray} {b off:Nat},q44 w b off l→∀ i (h:i < l.length),w.cell? ⟨b,off+i,none⟩=some (.string l[i])
 | [],_,_,_,i,h=>absurd h (by simp)
 | s::r,b,off,hk,0,_=>hk.1
 | s::r,b,off,hk,i+1,h=>by
  have:=q44.cell hk.2 i (by simpa using h)
  rw[show off+1+i=off+(i+1) by omega]at this
  exact this
mutual
theorem q1l.keep {w w2:World} (k:Below w.heap.size w w2):∀ {x:Val} {v:Value},q1l w v x→q1l w2 v x
 | .mk _ _ _ _ _,_,h=>by
  unfold q1l at h ⊢
  obtain ⟨vi,vk,e,hk,a,cap,e2,hle,hc⟩:=h
  exact ⟨vi,vk,e,hk.keep k,a,cap,e2,hle,hc.imp id fun ⟨b,off,e3,h4⟩=>⟨b,off,e3,q2h.keep k h4⟩⟩
theorem q2h.keep {w w2:World} (k:Below w.heap.size w w2):∀ {l:List Val} {b off:Nat},q2h w b off l→q2h w2 b off l
 | [],_,_,_=>by unfold q2h; trivial
 | x::r,_,_,h=>by
  unfold q2h at h ⊢
  obtain ⟨⟨v0,v1,v2,v3,v4,c0,c1,c2,c3,c4,hx⟩,hr⟩:=h
  exact ⟨⟨v0,v1,v2,v3,v4,q2i k c0,q2i k c1,q2i k c2,q2i k c3,q2i k c4,q1l.keep k hx⟩,q2h.keep k hr⟩
end
def qgr (w:World) (b off:Nat) (x:Val):Prop:=∃ v0 v1 v2 v3 v4,w.cell? ⟨b,off,none⟩=some v0∧w.cell? ⟨b,off+1,none⟩=some v1∧w.cell? ⟨b,off+2,none⟩=some v2∧w.cell? ⟨b,off+3,none⟩=some v3∧w.cell? ⟨b,off+4,none⟩=some v4∧q1l w (.agg #[v0,v1,v2,v3,v4]) x
theorem q2h.item {w:World}:∀ {l:List Val} {b off:Nat},q2h w b off l→∀ i (h:i < l.length),qgr w b (off+i*5) l[i]
 | [],_,_,_,i,h=>absurd h (by simp)
 | x::r,b,off,hk,0,_=>by unfold q2h at hk; exact hk.1
 | x::r,b,off,hk,i+1,h=>by
  unfold q2h at hk
  have:=q2h.item hk.2 i (by simpa using h)
  rw[show off+5+i*5=off+(i+1)*5 by omega]at this
  exact this
def q43 (w:World) (v:Value) (l:List Val):Prop :=
 ∃ a cap,v=.slice a l.length cap∧l.length≤cap∧(l=[]∨∃ b off,a=some ⟨b,off,none⟩∧q2h w b off l)
theorem q43.keep {w w2:World} (k:Below w.heap.size w w2) {v:Value} {l:List Val} (h:q43 w v l):q43 w2 v l:=by
 obtain ⟨a,cap,h1,h2,h3⟩:=h
 exact ⟨a,cap,h1,h2,h3.imp id fun ⟨b,off,e,h4⟩=>⟨b,off,e,q2h.keep k h4⟩⟩
theorem q4v (w:World) (v:Value) (k n:Int) (s:ByteArray) (items:List Val) (keys:List ByteArray) :
  q1l w v (.mk k n s items keys) ↔ ∃ vi vk,v=.agg #[.int .i64 k,.int .i64 n,.string s,vi,vk]∧q3s w vk keys∧q43 w vi items:=by
 unfold q1l q43; rfl
theorem q1l.open {w:World} {v:Value} {x:Val} (h:q1l w v x):∃ vi vk,v=.agg #[.int .i64 x.kind,.int .i64 x.num,.string x.str,vi,vk]∧q3s w vk x.keys∧q43 w vi x.items:=by
 cases x; exact (q4v _ _ _ _ _ _ _).1 h
theorem q43.at {w:World} {a:Option Addr} {n cap:Nat} {l:List Val} (h:q43 w (.slice a n cap) l) (i:Nat) (hi:i < l.length):∃ b off,a=some ⟨b,off,none⟩∧qgr w b (off+i*5) l[i]:=by
 obtain ⟨a',cap',e,_,h3⟩:=h
 obtain ⟨rfl,_,_⟩:a=a'∧n=l.length∧cap=cap':=by simpa using e
 rcases h3 with rfl | ⟨b,off,e2,h4⟩
 ·simp at hi
 ·exact ⟨b,off,e2,h4.item i hi⟩
theorem q3s.at {w:World} {a:Option Addr} {n cap:Nat} {l:List ByteArray} (h:q3s w (.slice a n cap) l) (i:Nat) (hi:i < l.length):∃ b off,a=some ⟨b,off,none⟩∧w.cell? ⟨b,off+i,none⟩=some (.string l[i]):=by
 obtain ⟨a',cap',e,_,h3⟩:=h
 obtain ⟨rfl,_,_⟩:a=a'∧n=l.length∧cap=cap':=by simpa using e
 rcases h3 with rfl | ⟨b,off,e2,h4⟩
 ·simp at hi
 ·exact ⟨b,off,e2,h4.cell i hi⟩
theorem q43.slice {w:World} {v:Value} {l:List Val} (h:q43 w v l):∃ a cap,v=.slice a l.length cap∧l.length≤cap:=by
 obtain ⟨a,cap,e,hl,_⟩:=h; exact ⟨a,cap,e,hl⟩
theorem q3s.slice {w:World} {v:Value} {l:List ByteArray} (h:q3s w v l):∃ a cap,v=.slice a l.length cap∧l.length≤cap:=by
 obtain ⟨a,cap,e,hl,_⟩:=h; exact ⟨a,cap,e,hl⟩
inductive Val.Fits:Val→Prop
 | mk {k n:Int} {s:ByteArray} {items:List Val} {keys:List ByteArray}:(-9223372036854775808≤k∧k≤9223372036854775807)→(-9223372036854775808≤n∧n≤9223372036854775807)→s.size≤140737488351232→items.length*80≤140737488351232→keys.length*16≤140737488351232→(∀ t ∈ keys,t.size≤140737488351232)→(∀ x ∈ items,Val.Fits x)→Val.Fits (.mk k n s items keys)
theorem Val.Fits.parts {x:Val} (h:x.Fits):(-9223372036854775808≤x.kind∧x.kind≤9223372036854775807)∧(-9223372036854775808≤x.num∧x.num≤9223372036854775807)∧x.str.size≤140737488351232∧x.items.length*80≤140737488351232∧x.keys.length*16≤140737488351232∧(∀ t ∈ x.keys,t.size≤140737488351232)∧(∀ y ∈ x.items,y.Fits):=by
 cases h with
 | mk h1 h2 h3 h4 h5 h6 h7=>exact ⟨h1,h2,h3,h4,h5,h6,h7⟩
mutual
def keysV:Val→Nat
 | .mk _ _ _ items keys=>keys.length+keysL items
def keysL:List Val→Nat
 | []=>0
 | x::r=>keysV x+keysL r
end
theorem qap {α:Type} {l:List α} {k:Nat} (h:k < l.length):l.drop k=l[k]::l.drop (k+1):=List.drop_eq_getElem_cons h
theorem q3h (w:World) (o:Obj):Below w.heap.size w (w.alloc o):=(Below.refl _ w).alloc (Nat.le_refl _) o
mutual
def q2a:Val→Nat
 | .mk _ _ _ items _=>1+q1g items
def q1g:List Val→Nat
 | []=>0
 | x::r=>q2a x+q1g r
end
end Go.Proofs.YtpidpioifnnllaaGreatDoor
