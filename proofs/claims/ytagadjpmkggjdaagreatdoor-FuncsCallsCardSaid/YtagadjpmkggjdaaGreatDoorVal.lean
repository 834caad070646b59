import Derived.Test.YtagadjpmkggjdaaGreatDoorRows
import Derived.WalkKit
import Derived.WalkSpells
import Derived.WalkLawsBesides
import Derived.Lib.Hide
import Derived.Lib.IndexBytes
namespace Go.Proofs.YtagadjpmkggjdaaGreatDoor
open Go.RowKit
inductive Val where
 | mk (kind num:Int) (str:ByteArray) (items:List Val) (keys:List ByteArray)
namespace Val
def kind:Val->Int|.mk k _ _ _ _=>k
def num:Val->Int|.mk _ n _ _ _=>n
def str:Val->ByteArray|.mk _ _ s _ _=>s
def items:Val->List Val|.mk _ _ _ l _=>l
def keys:Val->List ByteArray|.mk _ _ _ _ l=>l
theorem ind {p:Val->Prop} (h:∀k n s items keys,(∀x∈items,p x)->p (.mk k n s items keys)) (v:Val):p v :=
 Val.rec (motive_1:=p) (motive_2:=fun l=>∀x∈l,p x) (fun k n s items keys ih=>h k n s items keys ih) (fun _ hx=>absurd hx List.not_mem_nil)
  (fun a l ha hl x hx=>by
   rcases List.mem_cons.1 hx with rfl|hx
   .exact ha
   .exact hl x hx) v
end Val
def q4p (w:World) (b off:Nat):List ByteArray->Prop
 | []=>True
 | s::r=>w.cell? ⟨b,off,none⟩=some (.string s)/\q4p w b (off+1) r
def q4o (w:World) (v:Value) (l:List ByteArray):Prop :=
 ∃a cap,v=.slice a l.length cap/\l.length<=cap/\(l=[]\/∃b off,a=some ⟨b,off,none⟩/\q4p w b off l)
mutual
/-- The Go value v holds the value x in the world w. -/
def q1n (w:World):Value->Val->Prop
 | v,.mk k n s items keys=>∃vi vk,v=.agg #[.int .i64 k,.int .i64 n,.string s,vi,vk]/\q4o w vk keys /\
   ∃a cap,vi=.slice a items.length cap/\items.length<=cap/\(items=[]\/∃b off,a=some ⟨b,off,none⟩/\q2s w b off items)
/-- The values l lie in memory from an address on,five cells each. -/
def q2s (w:World):Nat->Nat->List Val->Prop
 | _,_,[]=>True
 | b,off,x::r=>(∃v0 v1 v2 v3 v4,w.cell? ⟨b,off,none⟩=some v0/\w.cell? ⟨b,off+1,none⟩=some v1/\w.cell? ⟨b,off+2,none⟩=some v2/\w.cell? ⟨b,off+3,none⟩=some v3/\w.cell? ⟨b,off+4,none⟩=some v4/\q1n w (.agg #[v0,v1,v2,v3,v4]) x)/\q2s w b (off+5) r
end
theorem qps {w w1 w2:World} (h:Below w.heap.size w w1) (k:Below w1.heap.size w1 w2):Below w.heap.size w w2:=h.trans (k.mono h.size)
theorem q4e {w w2:World} {o:Obj} (k:Below (w.alloc o).heap.size (w.alloc o) w2):Below w.heap.size w w2:=((Below.refl _ w).alloc (Nat.le_refl _) o).trans (k.mono (by simp))
theorem q7q (w:World) (o:Obj):(w.alloc o).heap[w.heap.size]?=some o:=by
 show (w.heap.push o)[w.heap.size]?=_
 simp
theorem q50 {w w2:World} {o:Obj} (k:Below (w.alloc o).heap.size (w.alloc o) w2):w2.heap[w.heap.size]?=some o:=(k.block _ (by simp)).trans (q7q w o)
theorem qtx {w:World} {b:Nat} {o:Obj} (h:w.heap[b]?=some o):b<w.heap.size:=by
 rcases Nat.lt_or_ge b w.heap.size with h'|h'
 .exact h'
 .simp[Array.getElem?_eq_none h']at h
theorem q7n {w w2:World} {b:Nat} {o:Obj} (k:Below w.heap.size w w2) (h:w.heap[b]?=some o):w2.heap[b]?=some o:=(k.block _ (qtx h)).trans h
theorem q1s {w:World} {b:Nat} {cs:Array Value} {t:TypeId} {f:Nat×Nat} (h:w.heap[b]?=some (.cells cs t f)) (j:Nat):w.cell? ⟨b,j,none⟩=cs[j]?:=by simp[World.cell?,h]
theorem q40 {w w2:World} (k:Below w.heap.size w w2) {a:Addr} {v:Value} (h:w.cell? a=some v):w2.cell? a=some v:=by
 have:a.block<w.heap.size:=by
  rcases Nat.lt_or_ge a.block w.heap.size with h'|h'
  .exact h'
  .simp[World.cell?,Array.getElem?_eq_none h']at h
 rw[k.cell this];exact h
theorem q4p.keep {w w2:World} (k:Below w.heap.size w w2):∀{l:List ByteArray} {b off:Nat},q4p w b off l->q4p w2 b off l
 | [],_,_,_=>trivial
 | _::_,_,_,h=>⟨q40 k h.1,q4p.keep k h.2⟩
theorem q4o.keep {w w2:World} (k:Below w.heap.size w w2) {v:Value} {l:List ByteArray} (h:q4o w v l):q4o w2 v l:=by
 obtain ⟨a,cap,h1,h2,h3⟩:=h
 exact ⟨a,cap,h1,h2,h3.imp id fun ⟨b,off,e,h4⟩=>⟨b,off,e,h4.keep k⟩⟩
theorem q4p.cell {w:World}:∀{l:List ByteArray} {b off:Nat},q4p w b off l->∀i (h:i<l.length),w.cell? ⟨b,off+i,none⟩=some (.string l[i])
 | [],_,_,_,i,h=>absurd h (by simp)
 | s::r,b,off,hk,0,_=>hk.1
 | s::r,b,off,hk,i+1,h=>by
  have:=q4p.cell hk.2 i (by simpa using h)
  rw[show off+1+i=off+(i+1) by omega]at this
  exact this
mutual
theorem q1n.keep {w w2:World} (k:Below w.heap.size w w2):∀{x:Val} {v:Value},q1n w v x->q1n w2 v x
 | .mk _ _ _ _ _,_,h=>by
  unfold q1n at h ⊢
  obtain ⟨vi,vk,e,hk,a,cap,e2,hle,hc⟩:=h
  exact ⟨vi,vk,e,hk.keep k,a,cap,e2,hle,hc.imp id fun ⟨b,off,e3,h4⟩=>⟨b,off,e3,q2s.keep k h4⟩⟩
theorem q2s.keep {w w2:World} (k:Below w.heap.size w w2):∀{l:List Val} {b off:Nat},q2s w b off l->q2s w2 b off l
 | [],_,_,_=>by unfold q2s;trivial
 | x::r,_,_,h=>by
  unfold q2s at h ⊢
  obtain ⟨⟨v0,v1,v2,v3,v4,c0,c1,c2,c3,c4,hx⟩,hr⟩:=h
  exact ⟨⟨v0,v1,v2,v3,v4,q40 k c0,q40 k c1,q40 k c2,q40 k c3,q40 k c4,q1n.keep k hx⟩,q2s.keep k hr⟩
end
def qgh (w:World) (b off:Nat) (x:Val):Prop:=∃v0 v1 v2 v3 v4,w.cell? ⟨b,off,none⟩=some v0/\w.cell? ⟨b,off+1,none⟩=some v1/\w.cell? ⟨b,off+2,none⟩=some v2/\w.cell? ⟨b,off+3,none⟩=some v3/\w.cell? ⟨b,off+4,none⟩=some v4/\q1n w (.agg #[v0,v1,v2,v3,v4]) x
theorem q2s.item {w:World}:∀{l:List Val} {b off:Nat},q2s w b off l->∀i (h:i<l.length),qgh w b (off+i*5) l[i]
 | [],_,_,_,i,h=>absurd h (by simp)
 | x::r,b,off,hk,0,_=>by unfold q2s at hk;exact hk.1
 | x::r,b,off,hk,i+1,h=>by
  unfold q2s at hk
  have:=q2s.item hk.2 i (by simpa using h)
  rw[show off+5+i*5=off+(i+1)*5 by omega]at this
  exact this
def q4y (w:World) (v:Value) (l:List Val):Prop :=
 ∃a cap,v=.slice a l.length cap/\l.length<=cap/\(l=[]\/∃b off,a=some ⟨b,off,none⟩/\q2s w b off l)
theorem q4y.keep {w w2:World} (k:Below w.heap.size w w2) {v:Value} {l:List Val} (h:q4y w v l):q4y w2 v l:=by
 obtain ⟨a,cap,h1,h2,h3⟩:=h
 exact ⟨a,cap,h1,h2,h3.imp id fun ⟨b,off,e,h4⟩=>⟨b,off,e,q2s.keep k h4⟩⟩
theorem q6c (w:World) (v:Value) (k n:Int) (s:ByteArray) (items:List Val) (keys:List ByteArray) :
  q1n w v (.mk k n s items keys)↔∃vi vk,v=.agg #[.int .i64 k,.int .i64 n,.string s,vi,vk]/\q4o w vk keys/\q4y w vi items:=by
 unfold q1n q4y;rfl
theorem q1n.open {w:World} {v:Value} {x:Val} (h:q1n w v x):∃vi vk,v=.agg #[.int .i64 x.kind,.int .i64 x.num,.string x.str,vi,vk]/\q4o w vk x.keys/\q4y w vi x.items:=by
 cases x;exact (q6c _ _ _ _ _ _ _).1 h
theorem q4y.at {w:World} {a:Option Addr} {n cap:Nat} {l:List Val} (h:q4y w (.slice a n cap) l) (i:Nat) (hi:i<l.length):∃b off,a=some ⟨b,off,none⟩/\qgh w b (off+i*5) l[i]:=by
 obtain ⟨a',cap',e,_,h3⟩:=h
 obtain ⟨rfl,_,_⟩:a=a'/\n=l.length/\cap=cap':=by simpa using e
 rcases h3 with rfl|⟨b,off,e2,h4⟩
 .simp at hi
 .exact ⟨b,off,e2,h4.item i hi⟩
theorem q4o.at {w:World} {a:Option Addr} {n cap:Nat} {l:List ByteArray} (h:q4o w (.slice a n cap) l) (i:Nat) (hi:i<l.length):∃b off,a=some ⟨b,off,none⟩/\w.cell? ⟨b,off+i,none⟩=some (.string l[i]):=by
 obtain ⟨a',cap',e,_,h3⟩:=h
 obtain ⟨rfl,_,_⟩:a=a'/\n=l.length/\cap=cap':=by simpa using e
 rcases h3 with rfl|⟨b,off,e2,h4⟩
 .simp at hi
 .exact ⟨b,off,e2,h4.cell i hi⟩
theorem q4y.slice {w:World} {v:Value} {l:List Val} (h:q4y w v l):∃a cap,v=.slice a l.length cap/\l.length<=cap:=by
 obtain ⟨a,cap,e,hl,_⟩:=h;exact ⟨a,cap,e,hl⟩
theorem q4o.slice {w:World} {v:Value} {l:List ByteArray} (h:q4o w v l):∃a cap,v=.slice a l.length cap/\l.length<=cap:=by
 obtain ⟨a,cap,e,hl,_⟩:=h;exact ⟨a,cap,e,hl⟩
inductive Val.Fits:Val->Prop
 | mk {k n:Int} {s:ByteArray} {items:List Val} {keys:List ByteArray}:(-9223372036854775808<=k/\k<=9223372036854775807)->(-9223372036854775808<=n/\n<=9223372036854775807)->s.size<=140737488351232->items.length*80<=140737488351232->keys.length*16<=140737488351232->(∀t∈keys,t.size<=140737488351232)->(∀x∈items,Val.Fits x)->Val.Fits (.mk k n s items keys)
theorem Val.Fits.parts {x:Val} (h:x.Fits):(-9223372036854775808<=x.kind/\x.kind<=9223372036854775807)/\(-9223372036854775808<=x.num/\x.num<=9223372036854775807)/\x.str.size<=140737488351232/\x.items.length*80<=140737488351232/\x.keys.length*16<=140737488351232/\(∀t∈x.keys,t.size<=140737488351232)/\(∀y∈x.items,y.Fits):=by
 cases h with
 | mk h1 h2 h3 h4 h5 h6 h7=>exact ⟨h1,h2,h3,h4,h5,h6,h7⟩
mutual
def q3p:Val->Nat
 | .mk _ _ _ items keys=>keys.length+q4t items
def q4t:List Val->Nat
 | []=>0
 | x::r=>q3p x+q4t r
end
theorem qsw (x:Val):q3p x=x.keys.length+q4t x.items:=by cases x;simp only[q3p,Val.keys,Val.items]
theorem q7w {α:Type} {l:List α} {k:Nat} (h:k<l.length):l.drop k=l[k]::l.drop (k+1):=List.drop_eq_getElem_cons h
theorem q34 (w:World) (o:Obj):Below w.heap.size w (w.alloc o):=(Below.refl _ w).alloc (Nat.le_refl _) o
mutual
def q2y:Val->Int->Int->Int
 | .mk _ _ _ items _,nodes,lv=>if nodes < 1\/lv < 1 then -1 else q46 items (nodes - 1) (lv - 1)
def q46:List Val->Int->Int->Int
 | [],n,_=>n
 | x::r,n,lv=>if n < 0 then n else q46 r (q2y x n lv) lv
end
mutual
def q2k:Val->Nat
 | .mk _ _ _ items _=>1+q1d items
def q1d:List Val->Nat
 | []=>0
 | x::r=>q2k x+q1d r
end
theorem qtf (x:Val) (nodes lv:Int):q2y x nodes lv=if nodes<1\/lv<1 then -1 else q46 x.items (nodes - 1) (lv - 1):=by cases x;simp only[q2y,Val.items]
theorem qkc (l:List Val) (n lv:Int) (h:n<0):q46 l n lv=n:=by
 cases l with
 | nil=>rfl
 | cons x r=>simp only[q46];rw[if_pos h]
mutual
/-- What left returns: -1,or what is left of the nodes. -/
theorem qbd:∀(x:Val) (nodes lv:Int),q2y x nodes lv=-1\/(0<=q2y x nodes lv/\q2y x nodes lv=nodes-q2k x)
 | .mk k n s items keys,nodes,lv=>by
  simp only[q2y,q2k]
  by_cases h:nodes<1\/lv<1
  .rw[if_pos h];exact .inl rfl
  .rw[if_neg h]
   rcases qkb items (nodes - 1) (lv - 1) with h1|h1|h1
   .exact .inl h1
   .omega
   .exact .inr ⟨h1.1,by rw[h1.2];omega⟩
theorem qkb:∀(l:List Val) (n lv:Int),q46 l n lv=-1\/n<0\/(0<=q46 l n lv/\q46 l n lv=n-q1d l)
 | [],n,lv=>by
  simp only[q46,q1d]
  by_cases h:n<0
  .exact .inr (.inl h)
  .exact .inr (.inr ⟨by omega,by omega⟩)
 | x::r,n,lv=>by
  simp only[q46,q1d]
  by_cases h:n<0
  .exact .inr (.inl h)
  .rw[if_neg h]
   rcases qbd x n lv with h1|h1
   .rw[h1,qkc _ _ _ (by omega)];exact .inl rfl
   .rcases qkb r (q2y x n lv) lv with h2|h2|h2
    .exact .inl h2
    .omega
    .exact .inr (.inr ⟨h2.1,by omega⟩)
end
theorem qte (x:Val) (n lv:Int) (h:0<=n):-1<=q2y x n lv/\q2y x n lv<=n:=by
 rcases qbd x n lv with h1|h1<;>omega
mutual
theorem qk0:∀(x:Val),x.Fits->q3p x<=q2k x*8796093022208
 | .mk k n s items keys,h=>by
  obtain ⟨_,_,_,_,h5,_,h7⟩:=h.parts
  simp only[Val.keys,Val.items]at h5 h7
  have:=qk1 items h7
  simp only[q3p,q2k];omega
theorem qk1:∀(l:List Val),(∀x∈l,x.Fits)->q4t l<=q1d l*8796093022208
 | [],_=>by simp[q4t]
 | x::r,h=>by
  have h1:=qk0 x (h x (by simp))
  have h2:=qk1 r (fun y hy=>h y (by simp[hy]))
  simp only[q4t,q1d];omega
end
theorem qtg (x:Val) (nodes lv:Int) (hf:x.Fits) (_:0<=nodes) (h2:nodes<=1000) (h:0<=q2y x nodes lv):q3p x<=4611686018427387904:=by
 have h1:=qk0 x hf
 rcases qbd x nodes lv with h3|h3<;>omega
def q5a (x:Val) (nodes:Int):Bool:=decide (0<=q2y x nodes 40)&&decide ((q3p x:Int)<=2*nodes)
theorem qyr (x:Val) (nodes:Int):q5a x nodes=(decide (0<=q2y x nodes 40)&&decide ((q3p x:Int)<=2*nodes)):=rfl
end Go.Proofs.YtagadjpmkggjdaaGreatDoor
