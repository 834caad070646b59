import Derived.Test.YtagadjpmkggjdaaGreatDoorKnot
import Derived.Test.YtagadjpmkggjdaaGreatDoorACc
import Derived.Test.YtagadjpmkggjdaaGreatDoorABr
import Derived.Test.YtagadjpmkggjdaaGreatDoorFlA
import Derived.Test.YtagadjpmkggjdaaGreatDoorValD
import Derived.Test.YtagadjpmkggjdaaGreatDoorAbsS
import Derived.Test.YtagadjpmkggjdaaGreatDoorShelf
import Derived.Test.YtagadjpmkggjdaaGreatDoorAbsK
import Derived.Deep.QuietTactic
import Derived.BigQuiet
import Derived.Handy
import Derived.StillTailTactics
import Derived.Test.YtagadjpmkggjdaaGreatDoorUtf
import Derived.Test.YtagadjpmkggjdaaGreatDoorNumG
import Derived.Lib.ConvBytes
import Derived.Laws.IdiomStrings
import Derived.Lib.AtoiErrMem
import Derived.WalkSmall
import Derived.IntWalk
namespace Go.Proofs.YtagadjpmkggjdaaGreatDoor
namespace Abs
open Go.RowKit
variable {E : World -> Prop} {E0 : Nat} {G : Nat -> Option (List PV)}
def clone {α:Type} (by_:Nat) (l:List α):Option (List α):=if l.length*by_<=140737488355328 then some l else none
theorem qi1 {α:Type} {by_:Nat} {l r:List α} (h:clone by_ l=some r):r=l/\l.length*by_<=140737488355328:=by
 unfold clone at h
 split at h
 .rename_i hc;simp at h;exact ⟨h.symm,hc⟩
 .cases h
theorem qde (hb:Base E E0 G) (_he:∀w,E w->EnvV w) (l r:List ByteArray) (h:clone 16 l=some r):Pure E E0 Tryz.prog 58 [.cell (vL flS l)] (c1 (vL flS r)):=by
 obtain ⟨rfl,hn⟩:=qi1 h
 exact qdf hb r.length (r.map strP) hn (by simp)
noncomputable def q2e (x:Val):Option Int:=gd x.Fits (qx x)
noncomputable def qes (x:Val) (n:Int):Option Bool:=gd (x.Fits/\0<=n/\n<=1000) (q5a x n)
noncomputable def q72 (s:ByteArray):Option (Int×Int):=gd (s.size<=281474976710656) (NumPlain.parseB s)
noncomputable def q71 (n:Int):Option ByteArray:=gd (-9223372036854775808<=n/\n<=9223372036854775807) (fmtB n)
theorem qwb (hb:Base E E0 G) (_he:∀w,E w->EnvV w) (x:Val) (n:Int) (r:Bool) (h:qes x n=some r):Pure E E0 Tryz.prog 20 [.agg (aV x),.cell (vi n)] (c1 (vB r)):=by
 obtain ⟨⟨hf,h1,h2⟩,rfl⟩:=q2t h
 exact qwc hb x n hf h1 h2
theorem qbz (hb:Base E E0 G) (_he:∀w,E w->EnvV w) (x:Val) (r:Int) (h:q2e x=some r):Pure E E0 Tryz.prog 17 [.agg (aV x)] (c1 (vi r)):=by
 obtain ⟨hf,rfl⟩:=q2t h
 exact qw8 hb x hf
theorem qfa (hb:Base E E0 G) (he:∀w,E w->EnvV w) (x:Val) (r:Int) (h:q2e x=some r):Pure E E0 Tryz.prog 16 [.agg (aV x)] (c1 (vi r)):=by
 obtain ⟨hf,rfl⟩:=q2t h
 exact qvo hb he x hf
theorem qvq (hb:Base E E0 G) (he:∀w,E w->EnvV w) (s:ByteArray) (r:Int×Int) (h:q72 s=some r):Pure E E0 Tryz.prog 232 [.cell (vS s)] (.tup [.cell (vi r.1),.cell (vi r.2)]):=by
 obtain ⟨hf,rfl⟩:=q2t h
 exact qvs hb he s hf
theorem qs2 (hb:Base E E0 G) (he:∀w,E w->EnvV w) (n:Int) (r:ByteArray) (h:q71 n=some r):Pure E E0 Tryz.prog 233 [.cell (vi n)] (c1 (vS r)):=by
 obtain ⟨hf,rfl⟩:=q2t h
 exact qs3 hb he n hf.1 hf.2
end Abs
end Go.Proofs.YtagadjpmkggjdaaGreatDoor
namespace Go.Proofs.YtagadjpmkggjdaaGreatDoor
namespace Abs
open Go.RowKit Go.Lib Go.Sort
set_option linter.unusedVariables false
set_option linter.unusedSimpArgs false
theorem qkm (x y:UInt8) (h:¬x<y) (h':¬y<x):x=y:=UInt8.le_antisymm (UInt8.not_lt.1 h') (UInt8.not_lt.1 h)
theorem ltC:∀a b:List UInt8,decide (compareBytes a b<0)=Op.bytesLess a b
 | [],[]=>rfl
 | [],_::_=>by simp[compareBytes,Op.bytesLess]
 | _::_,[]=>by simp[compareBytes,Op.bytesLess]
 | x::a,y::b=>by
  unfold compareBytes Op.bytesLess
  by_cases h:x<y
  .simp[h]
  .by_cases h':y<x
   .have hne:¬x=y:=fun e=>by subst e;exact h h'
    simp[h,h',hne]
   .obtain rfl:=qkm x y h h'
    rw[if_neg h,if_neg h]
    simp[h,ltC a b]
theorem qhe:∀l:List UInt8,Op.bytesLess l l=false
 | []=>rfl
 | x::r=>by simp[Op.bytesLess,qhe r,UInt8.lt_irrefl]
theorem qd3:∀{a b c:List UInt8},Op.bytesLess a b=true->Op.bytesLess b c=true->Op.bytesLess a c=true
 | [],[],_,h,_=>by simp[Op.bytesLess]at h
 | _::_,[],_,h,_=>by simp[Op.bytesLess]at h
 | _,_::_,[],_,h=>by simp[Op.bytesLess]at h
 | [],_::_,_::_,_,_=>by simp[Op.bytesLess]
 | x::a,y::b,z::c,h,k=>by
  simp only[Op.bytesLess,Bool.or_eq_true,Bool.and_eq_true,decide_eq_true_eq,beq_iff_eq]at h k ⊢
  rcases h with h|⟨rfl,h⟩
  .rcases k with k|⟨rfl,k⟩
   .exact .inl (UInt8.lt_trans h k)
   .exact .inl h
  .rcases k with k|⟨rfl,k⟩
   .exact .inl k
   .exact .inr ⟨rfl,qd3 h k⟩
theorem qah:∀{a b:List UInt8},Op.bytesLess a b=false->Op.bytesLess b a=false->a=b
 | [],[],_,_=>rfl
 | [],_::_,h,_=>by simp[Op.bytesLess]at h
 | _::_,[],_,h=>by simp[Op.bytesLess]at h
 | x::a,y::b,h,k=>by
  simp only[Op.bytesLess,Bool.or_eq_false_iff,Bool.and_eq_false_iff,decide_eq_false_iff_not,beq_eq_false_iff_ne]at h k
  obtain rfl:=qkm x y h.1 k.1
  rw[qah (h.2.resolve_left fun k=>k rfl) (k.2.resolve_left fun k=>k rfl)]
theorem qpu {a b c:List UInt8} (h:Op.bytesLess a b=false) (k:Op.bytesLess b c=false):Op.bytesLess a c=false:=by
 cases e:Op.bytesLess a c with
 | false=>rfl
 | true =>
  cases e2:Op.bytesLess b a with
  | true=>rw[qd3 e2 e]at k;cases k
  | false=>rw[qah h e2]at e;rw[e]at k;cases k
def cmpS (a b:ByteArray):Int:=compareBytes a.data.toList b.data.toList
theorem ltS (a b:ByteArray):ltOf cmpS a b=Op.bytesLess a.toList b.toList:=by
 unfold ltOf cmpS
 rw[ltC,ByteArray.toList_eq,ByteArray.toList_eq]
theorem swoS:SWO (ltOf cmpS) where
 irrefl x:=by rw[ltS];exact qhe _
 trans x y z h k:=by rw[ltS]at *;exact qd3 h k
 ntrans x y z h k:=by rw[ltS]at *;exact qpu h k
section
variable {E : World -> Prop} {E0 : Nat} {G : Nat -> Option (List PV)}
end
end Abs
end Go.Proofs.YtagadjpmkggjdaaGreatDoor
namespace Go.Proofs.YtagadjpmkggjdaaGreatDoor
set_option linter.unusedSimpArgs false
set_option linter.unusedVariables false
open Go.RowKit Go.Sort
def GrW (w w':World):Prop:=∃q os,w'=grow (w.drewN q) os
theorem GrW.refl (w:World):GrW w w:=⟨0,#[],by rw[grow_empty];rfl⟩
theorem GrW.alloc {w w':World} (h:GrW w w') (o:Obj):GrW w (w'.alloc o):=by
 obtain ⟨q,os,rfl⟩:=h
 refine ⟨q,os.push o,?_⟩
 unfold grow World.alloc
 simp
theorem GrW.drew {w w':World} (h:GrW w w'):GrW w w'.drew:=by
 obtain ⟨q,os,rfl⟩:=h
 exact ⟨q+1,os,rfl⟩
theorem qqf (a:Int) (w:World):Calls Tryz.prog 159 #[.int .i64 a,.int .i64 a] w fun e w'=>e=.returned (.int .i64 0)/\w'=w:=by
 go_enter Tryz.func159,Tryz.ntmps159
 go_wp2
 go_ret
 exact ⟨rfl,rfl⟩
theorem qqe (a:Int) (w:World):Calls Tryz.prog 160 #[.int .i64 a,.int .i64 a] w fun e w'=>e=.returned (.int .i64 0)/\w'=w:=by
 go_enter Tryz.func160,Tryz.ntmps160
 go_wp2
 go_ret
 exact ⟨rfl,rfl⟩
theorem or3 (c:Int) (cap:Nat) (b o:Nat) (w:World) (h0:w.cell? ⟨b,o,none⟩=some (.int .i64 0)) (h1:w.cell? ⟨b,o+1,none⟩=some (.int .i64 0)) (h2:w.cell? ⟨b,o+2,none⟩=some (.int .i64 c)) :
  Calls Tryz.prog 158 #[.slice (some ⟨b,o,none⟩) 3 cap] w fun e w'=>e=.returned (.int .i64 c)/\w'=w:=by
 by_cases hc:c=0
 .subst hc
  go_enter Tryz.func158,Tryz.ntmps158
  go_wp2
  go_rounds 4
  all_goals go_ret
  all_goals exact ⟨rfl,rfl⟩
 .go_enter Tryz.func158,Tryz.ntmps158
  go_wp2
  go_rounds 4
  all_goals go_ret
  all_goals exact ⟨rfl,rfl⟩
set_option maxRecDepth 100000 in
set_option maxHeartbeats 4000000 in
theorem qqh (a b:ByteArray) (p1 p2 p3 p4:Option Addr) (c1 c2 c3 c4:Nat) (k:Int) (w:World) :
  Calls Tryz.prog 102 #[.agg #[.int .i64 k,.int .i64 0,.string a,.slice p1 0 c1,.slice p2 0 c2],.agg #[.int .i64 k,.int .i64 0,.string b,.slice p3 0 c3,.slice p4 0 c4]] w fun e w'=>e=.returned (.int .i64 (Abs.cmpS a b))/\GrW w w':=by
 have hk:=qqf
 have hi:=qqe
 have hs:=Tryz.strings_Compare
 go_enter Tryz.func102,Tryz.ntmps102
 go_wp2_with fail
 generalize hW:World.alloc (World.alloc w _) _=W
 have hG:GrW w W:=by rw[←hW];exact ((GrW.refl w).alloc _).alloc _
 have hz:W.heap.size=w.heap.size+2:=by rw[←hW];simp
 have hc:∀(i:Nat) (v:Value),#[Value.int .i64 k,.int .i64 0,.string a,.slice p1 0 c1,.slice p2 0 c2][i]?=some v->W.cell? ⟨w.heap.size,i,none⟩=some v:=fun i v h=>by
  subst hW
  rw[Below.cell (w:=w.alloc _) (p:=⟨w.heap.size,i,none⟩) ((Below.refl _ _).alloc (Nat.le_refl _) _) (by simp),World.cell?_alloc_new]
  exact h
 have hd:∀(i:Nat) (v:Value),#[Value.int .i64 k,.int .i64 0,.string b,.slice p3 0 c3,.slice p4 0 c4][i]?=some v->W.cell? ⟨w.heap.size+1,i,none⟩=some v:=fun i v h=>by
  subst hW
  have e:w.heap.size+1=(w.alloc (.cells #[Value.int .i64 k,.int .i64 0,.string a,.slice p1 0 c1,.slice p2 0 c2] 28 (0,0))).heap.size:=by simp
  rw[e,World.cell?_alloc_new]
  exact h
 clear hW
 refine wp_region_still_tail 15 (by kernel_rfl) (by kernel_rfl) ?_
 simp only[List.take_succ_cons,List.take_zero,List.drop_succ_cons,List.drop_zero]
 generalize hD:({ heap:=W.heap,tape:=W.tape,drawn:=W.drawn+1,os:=W.os,output:=W.output }:World)=D
 have hDW:D=W.drew:=by rw[←hD];rfl
 have hG:GrW w D:=by rw[hDW];exact hG.drew
 have hz:D.heap.size=w.heap.size+2:=by rw[hDW];exact hz
 have a0:D.cell? ⟨w.heap.size,0,none⟩=some (.int .i64 k):=by rw[hDW];exact hc 0 _ rfl
 have a1:D.cell? ⟨w.heap.size,1,none⟩=some (.int .i64 0):=by rw[hDW];exact hc 1 _ rfl
 have a2:D.cell? ⟨w.heap.size,2,none⟩=some (.string a):=by rw[hDW];exact hc 2 _ rfl
 have a3:D.cell? ⟨w.heap.size,3,none⟩=some (.slice p1 0 c1):=by rw[hDW];exact hc 3 _ rfl
 have b0:D.cell? ⟨w.heap.size+1,0,none⟩=some (.int .i64 k):=by rw[hDW];exact hd 0 _ rfl
 have b1:D.cell? ⟨w.heap.size+1,1,none⟩=some (.int .i64 0):=by rw[hDW];exact hd 1 _ rfl
 have b2:D.cell? ⟨w.heap.size+1,2,none⟩=some (.string b):=by rw[hDW];exact hd 2 _ rfl
 have b3:D.cell? ⟨w.heap.size+1,3,none⟩=some (.slice p3 0 c3):=by rw[hDW];exact hd 3 _ rfl
 clear hD hDW hc hd
 repeat still_step
 still_call (hk k _)
 repeat still_step
 still_call (hi 0 _)
 repeat still_step
 still_call (hs a b _)
 refine wpStill_nil ?_
 have hcs:Lib.compareBytes a.data.toList b.data.toList=Abs.cmpS a b:=rfl
 rw[hcs]
 clear hk hs hcs
 generalize hcc:Abs.cmpS a b=c
 have ho:Calls Tryz.prog 158 #[.slice (some ⟨D.heap.size,0,none⟩) 3 3] (D.alloc (.cells #[.int .i64 0,.int .i64 0,.int .i64 c] 3 (0,0))) fun e w'=>e=.returned (.int .i64 c)/\w'=D.alloc (.cells #[.int .i64 0,.int .i64 0,.int .i64 c] 3 (0,0)) :=
  or3 c 3 D.heap.size 0 _ (by rw[World.cell?_alloc_new];rfl) (by rw[World.cell?_alloc_new];rfl) (by rw[World.cell?_alloc_new];rfl)
 have hold:∀(p:Addr) (v:Value),p.block<D.heap.size->D.cell? p=some v->(D.alloc (.cells #[.int .i64 0,.int .i64 0,.int .i64 c] 3 (0,0))).cell? p=some v:=fun p v h e=>by
  rw[Below.cell (w:=D) ((Below.refl _ _).alloc (Nat.le_refl _) _) h];exact e
 have a3':=hold _ _ (by simp;omega) a3
 have b3':=hold _ _ (by simp;omega) b3
 have hG':=hG.alloc (.cells #[.int .i64 0,.int .i64 0,.int .i64 c] 3 (0,0))
 clear hold a0 a1 a2 a3 b0 b1 b2 b3
 rw[hz]at ho
 by_cases hc0:c=0
 .subst hc0
  go_wp2_with fail
  refine ho.mono ?_
  rintro e w' ⟨rfl,rfl⟩
  go_wp2_with fail
  go_rounds 1
  go_ret
  exact ⟨by rw[hcc];rfl,hG'⟩
 .go_wp2_with fail
  refine ho.mono ?_
  rintro e w' ⟨rfl,rfl⟩
  go_wp2_with fail
  go_ret
  exact ⟨by rw[hcc];rfl,hG'⟩
namespace Abs
open Go.Lib
variable {E : World -> Prop} {E0 : Nat} {G : Nat -> Option (List PV)}
def EncS (s:ByteArray) (us:List Value):Prop:=∃p1 p2 c1 c2,us=[.int .i64 3,.int .i64 0,.string s,.slice p1 0 c1,.slice p2 0 c2]/\(p1=none->c1=0)/\(p2=none->c2=0)
def strV (s:ByteArray):Val:=Val.mk 3 0 s [] []
def isStrV (v:Val):Prop:=v=strV v.str
theorem qdq {prot:Nat->Nat->Prop} {w:World} {u:Value} (h:PRep prot w (.sl false 0 []) u):∃p c,u=.slice p 0 c/\(p=none->c=0):=by
 unfold PRep at h
 rcases h with ⟨rfl,_⟩|⟨b,off,cap,rfl,_⟩|⟨_,_,a,cap,rfl,_⟩
 .exact ⟨none,0,rfl,fun _=>rfl⟩
 .exact ⟨_,cap,rfl,fun h=>by cases h⟩
 .exact ⟨_,cap,rfl,fun h=>by cases h⟩
theorem qmc {prot:Nat->Nat->Prop} {w:World} {p:Option Addr} {c:Nat} (h:p=none->c=0):PRep prot w (.sl false 0 []) (.slice p 0 c):=by
 unfold PRep
 cases p with
 | none=>rw[h rfl];exact .inl ⟨rfl,rfl,rfl⟩
 | some a=>exact .inr (.inr ⟨rfl,rfl,a,c,rfl,fun h=>by cases h⟩)
theorem qiv (s:ByteArray):flV.c (strV s)=[.sc (.int .i64 3),.sc (.int .i64 0),.sc (.string s),.sl false 0 [],.sl false 0 []]:=by
 show [pI .i64 (strV s).kind,pI .i64 (strV s).num,pS (strV s).str,.sl false (strV s).items.length (qo (strV s).items),.sl false (strV s).keys.length ((strV s).keys.map strP)]=_
 rw[show (strV s).items=[] from rfl,show (strV s).keys=[] from rfl,qj2]
 rfl
theorem qrl (xs:List Val):flV.f xs=(xs.map flV.c).flatten:=by
 induction xs with
 | nil=>exact flV.nil
 | cons x r ih=>rw[flV.cons,ih];rfl
theorem qr9 {prot:Nat->Nat->Prop} {w:World} {s:ByteArray} {us:List Value} (h:All2 (PRep prot w) (flV.c (strV s)) us):EncS s us:=by
 rw[qiv]at h
 match us,h with
 | [u0,u1,u2,u3,u4],⟨h0,h1,h2,h3,h4,_⟩ =>
  unfold PRep at h0 h1 h2
  obtain ⟨p1,c1,rfl,e1⟩:=qdq h3
  obtain ⟨p2,c2,rfl,e2⟩:=qdq h4
  obtain ⟨rfl,_⟩:=h0
  obtain ⟨rfl,_⟩:=h1
  obtain ⟨rfl,_⟩:=h2
  exact ⟨p1,p2,c1,c2,rfl,e1,e2⟩
theorem qra {prot:Nat->Nat->Prop} {w:World} {s:ByteArray} {us:List Value} (h:EncS s us):All2 (PRep prot w) (flV.c (strV s)) us:=by
 rw[qiv]
 obtain ⟨p1,p2,c1,c2,rfl,e1,e2⟩:=h
 refine ⟨?_,?_,?_,qmc e1,qmc e2,trivial⟩<;>(unfold PRep;exact ⟨rfl,rfl⟩)
instance : Inhabited ByteArray := ⟨ByteArray.empty⟩
open Classical in
/-- slices.SortFunc of values by value.Compare,where all are strings. -/
noncomputable def q9k (xs:List Val):Option (List Val):=gd (xs.length<4611686018427387904/\∀x∈xs,isStrV x) ((q2o cmpS (xs.map Val.str)).map strV)
theorem qtz {xs ys:List Val} (h:q9k xs=some ys):ys.length=xs.length:=by
 obtain ⟨_,rfl⟩:=q2t h
 rw[List.length_map,(q3k swoS _).1.length_eq,List.length_map]
theorem qqg (a b:ByteArray) (h:ltOf cmpS a b=false) (k:ltOf cmpS b a=false):a=b:=by
 rw[ltS]at h k
 have:=qah h k
 rw[ByteArray.toList_eq,ByteArray.toList_eq]at this
 obtain ⟨⟨x⟩⟩:=a
 obtain ⟨⟨y⟩⟩:=b
 simp at this
 rw[this]
theorem qyt (hb:Base E E0 G) (_he:∀w,E w->EnvV w) {σ:Sto} (id:Nat) (nb:Bool) (xs:List Val) (ho:σ[id]?=some (some (arO nb flV.sz 0 (flV.f xs)))) (y:List Val) (h:q9k xs=some y) :
  Ok E E0 Tryz.prog 101 [.cell (vO flV id xs),.cell (.pv (.sc (.func (.func 102) #[] #[])))] σ (.tup []) (σ.set id (some (arO nb flV.sz 0 (flV.f y)))):=by
 obtain ⟨⟨hl,hs⟩,rfl⟩:=q2t h
 have hx:xs=(xs.map Val.str).map strV:=by
  rw[List.map_map]
  conv=>lhs;rw[←List.map_id xs]
  exact List.map_congr_left fun x hx=>hs x hx
 have hl':(xs.map Val.str).length<4611686018427387904:=by rw[List.length_map];exact hl
 generalize hg:xs.map Val.str=gs at hx hl'
 subst hx
 exact qyx Tryz.laysSortK hb flV qrl swoS qqg (fun w=>by kernel_rfl) (fun w=>by kernel_rfl) EncS strV ⟨_,none,none,0,0,rfl,fun _=>rfl,fun _=>rfl⟩
  (fun g us ⟨p1,p2,c1,c2,h,_⟩=>by subst h;exact ⟨rfl,by simp⟩) (fun g us h Y w=>qra h) (fun g us Y w h=>qr9 h)
  (enters_of Tryz.func102 (by kernel_rfl) rfl) (fun g1 us1 g2 us2 w ⟨p1,p2,c1,c2,h1,_⟩ ⟨p3,p4,c3,c4,h2,_⟩=>by subst h1;subst h2;exact qqh g1 g2 p1 p2 p3 p4 c1 c2 c3 c4 3 w) ho hl'
theorem qyu (hb:Base E E0 G) (_he:∀w,E w->EnvV w):Pure E E0 Tryz.prog 101 [.cell (vL flV []),.cell (.pv (.sc (.func (.func 102) #[] #[])))] (.tup []):=by
 intro old w vs hE h0 hold hv
 match vs,hv with
 | [u,v],⟨h1,h2,_⟩ =>
  have h1':PRep _ w (.sl false 0 []) u:=h1
  obtain ⟨p,c,rfl,_⟩:=qdq h1'
  refine (AnyF.slices_SortFunc_none Tryz.laysSortK p c _ w).mono ?_
  rintro e w' ⟨rfl,rfl⟩
  exact ⟨_,rfl,Below.refl _ _,hE,#[],rfl,trivial⟩
end Abs
end Go.Proofs.YtagadjpmkggjdaaGreatDoor
namespace Go.Proofs.YtagadjpmkggjdaaGreatDoor
set_option linter.unusedSimpArgs false
set_option linter.unusedVariables false
open Go.RowKit
def rcF (s:ByteArray):Nat->Nat->Nat
 | 0,_=>0
 | f+1,k=>if k < s.size then 1+rcF s f (k+max (rlen s k) 1) else 0
theorem qm5 (s:ByteArray):∀(f k:Nat),s.size<=f+k->∀g,f<=g->rcF s g k=rcF s f k
 | 0,k,h,g,_=>by
  cases g with
  | zero=>rfl
  | succ g=>unfold rcF;rw[if_neg (by omega)]
 | f+1,k,h,g,hg=>by
  obtain ⟨g,rfl⟩:∃g',g=g'+1:=⟨g - 1,by omega⟩
  unfold rcF
  split
  .rw[qm5 s f _ (by omega) g (by omega)]
  .rfl
def rcount (s:ByteArray) (k:Nat):Nat:=rcF s s.size k
theorem qwi (s:ByteArray) (k:Nat) (h:k<s.size):rcount s k=1+rcount s (k+max (rlen s k) 1):=by
 unfold rcount
 conv=>lhs;rw[show s.size=(s.size - 1)+1 by omega];unfold rcF
 rw[if_pos h]
 congr 1
 exact (qm5 s (s.size - 1) _ (by omega) s.size (by omega)).symm
theorem qwh (s:ByteArray) (k:Nat) (h:¬k<s.size):rcount s k=0:=by
 unfold rcount
 cases s.size with
 | zero=>rfl
 | succ n=>unfold rcF;rw[if_neg h]
theorem qx9 (s:ByteArray) (k:Nat) (h:k<s.size):k+max (rlen s k) 1<=s.size:=by
 obtain ⟨_,s2⟩:=qnn s k h
 by_cases h0:rlen s k=0
 .rw[h0];simp;omega
 .have:=(s2 h0).2;omega
set_option maxRecDepth 100000 in
set_option maxHeartbeats 1000000 in
theorem qxa (s:ByteArray) (w:World) (hs:s.size<=140737488351232) :
  Calls Tryz.prog 126 #[.string s] w fun e w'=>e=.returned (.int .i64 (rcount s 0))/\Below w.heap.size w w':=by
 go_enter Tryz.func126,Tryz.ntmps126
 go_wp2_with fail
 go_loopw [3,4] (fun n i wr=>∃k m:Nat,k<=s.size/\m<=k/\i=.int .i64 k/\n=.int .i64 m/\m+rcount s k=rcount s 0/\Below w.heap.size w wr) (fun _ i _=>s.size-(intOf i).toNat)
 case atStart=>exact ⟨0,0,Nat.zero_le _,Nat.le_refl _,rfl,rfl,by omega,Below.refl _ _⟩
 case round =>
  obtain ⟨k,m,hk,hmk,rfl,rfl,hv,hbe⟩:=hrel
  have HV:=Lib.hid hv
  have HBE:=Lib.hid hbe
  clear hv hbe
  by_cases hlt:k<s.size
  .have HR:=Lib.hid (qm8 s k wr hs hlt)
   have HS:=Lib.hid (qwi s k hlt)
   have hle:=qx9 s k hlt
   generalize rlen s k=r at *
   have hmx:=Lib.hid (show ((k:Int)+((max r 1:Nat):Int))=((k+max r 1:Nat):Int) by omega)
   have hmy:=Lib.hid (show ((k:Int)+max (r:Int) 1)=((k+max r 1:Nat):Int) by omega)
   go_wp2_with fail
   refine HR.out.mono ?_
   rintro e w1 ⟨⟨c,rfl⟩,hb1⟩
   have HB1:=Lib.hid hb1
   clear hb1
   go_wp2_with fail
   first|rw[hmx.out]|rw[hmy.out]
   refine ⟨⟨k+max r 1,m+1,hle,by omega,rfl,by rw[show (m:Int)+1=((m+1:Nat):Int) by omega],by have:=HV.out;have h2:=HS.out;omega,HBE.out.trans (HB1.out.mono HBE.out.size)⟩,?_⟩
   simp only[intOf]
   omega
  .obtain rfl:k=s.size:=by omega
   have HE:=Lib.hid (qwh s s.size hlt)
   go_wp2_with fail
   go_ret
   exact ⟨by have:=HV.out;rw[HE.out]at this;rw[←this];rfl,HBE.out⟩
namespace Abs
variable {E : World -> Prop} {E0 : Nat} {G : Nat -> Option (List PV)}
noncomputable def qeq (s:ByteArray):Option Int:=gd (s.size<=140737488351232) (rcount s 0)
theorem qxb (hb:Base E E0 G) (_he:∀w,E w->EnvV w) (s:ByteArray) (r:Int) (h:qeq s=some r):Pure E E0 Tryz.prog 126 [.cell (vS s)] (c1 (vi r)):=by
 obtain ⟨h1,rfl⟩:=q2t h
 refine Pure.of hb fun X w vs hE hv=>?_
 match vs,hv with
 | [u],⟨k1,_⟩ =>
  rw[q4a k1]
  exact (qxa s w h1).mono fun e w' ⟨e1,e2⟩=>⟨_,e1,e2,fun X'=>q4l q6j⟩
end Abs
end Go.Proofs.YtagadjpmkggjdaaGreatDoor
namespace Go.Proofs.YtagadjpmkggjdaaGreatDoor
namespace Abs
open Go.RowKit
variable {E : World -> Prop} {E0 : Nat} {G : Nat -> Option (List PV)}
theorem qwa (hb:Base E E0 G) (_he:∀w,E w->EnvV w) (s:ByteArray) (r:Int×Int) (h:q72 s=some r):Pure E E0 Tryz.prog 210 [.cell (vS s)] (.tup [.cell (vi r.1),.cell (vi r.2)]):=by
 obtain ⟨hf,rfl⟩:=q2t h
 exact Pure.of hb fun X w vs hE hv=>match vs,hv with
  | [u],⟨h1,_⟩=>by
   rw[q4a h1]
   exact (qy7 s w (by unfold maxLen;omega)).mono fun e w' ⟨k1,k2⟩=>⟨_,k1,by rw[k2];exact Below.refl _ _,fun X'=>⟨_,rfl,q6j,q6j,trivial⟩⟩
theorem qw9 (hb:Base E E0 G) (_he:∀w,E w->EnvV w) (n:Int) (r:ByteArray) (h:q71 n=some r):Pure E E0 Tryz.prog 240 [.cell (vi n)] (c1 (vS r)):=by
 obtain ⟨hf,rfl⟩:=q2t h
 exact Pure.of hb fun X w vs hE hv=>match vs,hv with
  | [u],⟨h2,_⟩=>by
   rw[qb7 h2]
   exact (qx2 n w hf.1 hf.2).mono fun e w' ⟨k1,k2⟩=>⟨_,k1,k2,fun X'=>q4l q74⟩
end Abs
end Go.Proofs.YtagadjpmkggjdaaGreatDoor
namespace Go.Proofs.YtagadjpmkggjdaaGreatDoor
set_option linter.unusedSimpArgs false
set_option linter.unusedVariables false
namespace Abs
open Go.RowKit
variable {E : World -> Prop} {E0 : Nat} {G : Nat -> Option (List PV)}
def qv (l:List ByteArray) (s:ByteArray):ByteArray:=⟨(Lib.join (l.map (·.data.toList)) s.data.toList).toArray⟩
noncomputable def qeo (l:List ByteArray) (s:ByteArray):Option ByteArray:=gd (l.length<=140737488355328/\(Lib.join (l.map (·.data.toList)) s.data.toList).length<=140737488355328) (qv l s)
theorem qjv {w:World} {b:Nat}:∀{off:Nat} {l:List ByteArray},q4p w b off l->∀(j:Nat) x,l[j]?=some x->w.cell? ⟨b,off+j,none⟩=some (.string x)
 | _,[],_,j,x,h=>by simp at h
 | off,s::r,k,0,x,h=>by
  simp at h;subst h
  exact k.1
 | off,s::r,k,j+1,x,h=>by
  have:=qjv k.2 j x (by simpa using h)
  rw[show off+(j+1)=off+1+j by omega]
  exact this
theorem qq4 {w:World} {b o:Nat} {u:Value} (h:w.cell? ⟨b,o,none⟩=some u):b<w.heap.size:=by
 rcases Nat.lt_or_ge b w.heap.size with k|k
 .exact k
 .unfold World.cell? at h
  simp[Array.getElem?_eq_none k]at h
theorem join_g (hb:Base E E0 G) (_he:∀w,E w->EnvV w) (l:List ByteArray) (s:ByteArray) (r:ByteArray) (h:qeo l s=some r):Pure E E0 Tryz.prog 135 [.cell (vL flS l),.cell (vS s)] (c1 (vS r)):=by
 obtain ⟨⟨h1,h2⟩,rfl⟩:=q2t h
 refine Pure.of hb fun X w vs hE hv=>?_
 match vs,hv with
 | [u,v],⟨k1,k2,_⟩ =>
  rw[q4a k2]
  obtain ⟨a,cap,rfl,hc,hk⟩:=qjn (l:=l) k1
  rcases l with _|⟨x,l⟩
  .exact (Tryz.strings_Join_none a cap s w).mono fun e w' ⟨e1,e2⟩=>⟨_,e1,e2 ▸ Below.refl _ _,fun X'=>q4l q74⟩
  .rcases hk with hk|⟨b,off,rfl,hk⟩
   .cases hk
   .have hg:=qjv hk
    exact (Tryz.strings_Join b off cap (x::l) s w hg (qq4 (hg 0 x rfl)) h1 hc h2).mono fun e w' ⟨e1,e2⟩=>⟨_,e1,e2,fun X'=>q4l q74⟩
end Abs
end Go.Proofs.YtagadjpmkggjdaaGreatDoor
namespace Go.Proofs.YtagadjpmkggjdaaGreatDoor
set_option linter.unusedSimpArgs false
set_option linter.unusedVariables false
namespace Abs
open Go.RowKit
variable {E : World -> Prop} {E0 : Nat} {G : Nat -> Option (List PV)}
def asciiB (s:ByteArray):Bool:=s.data.toList.all fun b=>decide (b.toNat<128)
noncomputable def qbp (s cut:ByteArray):Option ByteArray:=gd (s.size<=140737488355328/\cut.size<4294967281/\asciiB cut=true) ⟨(Lib.trimS s.data.toList cut.data.toList).toArray⟩
theorem trim_g (hb:Base E E0 G) (_he:∀w,E w->EnvV w) (s cut r:ByteArray) (h:qbp s cut=some r):Pure E E0 Tryz.prog 87 [.cell (vS s),.cell (vS cut)] (c1 (vS r)):=by
 obtain ⟨⟨h1,h2,h3⟩,rfl⟩:=q2t h
 refine Pure.of hb fun X w vs hE hv=>?_
 match vs,hv with
 | [u,v],⟨k1,k2,_⟩ =>
  rw[q4a k1,q4a k2]
  exact (Tryz.strings_Trim s cut w (by omega) h2 (ascii_of_all h3)).mono fun e w' ⟨e1,e2⟩=>⟨_,e1,e2,fun X'=>q4l q74⟩
noncomputable def qep (s a b:ByteArray):Option ByteArray:=gd (s.size<4294967281/\1<=a.size/\s.size+Lib.countB s a*b.size<=140737488355328) ⟨(Lib.replaceAll s.data.toList a.data.toList b.data.toList).toArray⟩
theorem qww (hb:Base E E0 G) (he:∀w,E w->EnvV w) (s a b r:ByteArray) (h:qep s a b=some r):Pure E E0 Tryz.prog 136 [.cell (vS s),.cell (vS a),.cell (vS b)] (c1 (vS r)):=by
 obtain ⟨⟨h1,h2,h3⟩,rfl⟩:=q2t h
 refine Pure.of hb fun X w vs hE hv=>?_
 match vs,hv with
 | [u,v,x],⟨k1,k2,k3,_⟩ =>
  rw[q4a k1,q4a k2,q4a k3]
  obtain ⟨m,hm⟩:=(he w hE).maxlen
  exact (Tryz.strings_ReplaceAll s a b m w h1 hm h2 h3).mono fun e w' ⟨e1,e2⟩=>⟨_,e1,e2,fun X'=>q4l q74⟩
noncomputable def qet (s sep:ByteArray):Option (List ByteArray):=gd (s.size<4294967281/\1<=sep.size) (Lib.splitB sep 0 (Lib.countB s sep) s)
theorem qz6 (hb:Base E E0 G) (he:∀w,E w->EnvV w) (s sep:ByteArray) (r:List ByteArray) (h:qet s sep=some r):Pure E E0 Tryz.prog 137 [.cell (vS s),.cell (vS sep)] (c1 (vL flS r)):=by
 obtain ⟨⟨h1,h2⟩,rfl⟩:=q2t h
 intro old w vs hE h0 hold hv
 match vs,hv with
 | [u,v],⟨k1,k2,_⟩ =>
  rw[q4a k1,q4a k2]
  obtain ⟨m,hm⟩:=(he w hE).maxlen
  have hl:=Lib.splitB_all sep h2 0 _ s rfl
  generalize hq:Lib.splitB sep 0 (Lib.countB s sep) s=q at hl
  refine (Tryz.strings_Split s sep m w h1 hm h2).mono ?_
  rw[hq]
  rintro e w' ⟨rfl,rfl⟩
  refine ⟨_,rfl,q34 w _,hb.step _ _ hE ((q34 w _).mono h0),?_⟩
  unfold c1 TRep vL qf CRep PRep
  refine .inr (.inl ⟨w.heap.size,0,Lib.countB s sep+1,by rw[hl],by omega,fun k=>(by cases k),?_⟩)
  refine qj.of_get fun i c hi=>?_
  obtain ⟨x,hx,rfl⟩:∃x,q[i]?=some x/\c=strP x:=by
   have:(q.map strP)[i]?=some c:=hi
   rw[List.getElem?_map]at this
   cases hy:q[i]? with
   | none=>rw[hy]at this;cases this
   | some y=>rw[hy]at this;exact ⟨y,rfl,(Option.some.inj this).symm⟩
  refine ⟨.string x,?_,?_,?_⟩
  .rw[Nat.zero_add,World.cell?_alloc_new]
   simp[hx]
  .exact .inr ⟨Nat.le_refl _,by simp[Cx.bare],fun id ob l g1=>by simp[Cx.bare]at g1⟩
  .unfold PRep
   exact ⟨rfl,rfl⟩
end Abs
end Go.Proofs.YtagadjpmkggjdaaGreatDoor
namespace Go.Proofs.YtagadjpmkggjdaaGreatDoor
set_option linter.unusedSimpArgs false
set_option linter.unusedVariables false
open Go.RowKit
def movB (lo hi:Int) (by_:Int) (c:Int):Int:=if lo<=c/\c<=hi then (c+by_) % 256 else c
theorem qkx (lo hi d c:Int) (h0:0<=c) (h1:c<256):0<=movB lo hi d c/\movB lo hi d c<256:=by
 unfold movB
 split
 .exact ⟨by omega,by omega⟩
 .exact ⟨h0,h1⟩
def q63 (lo hi d:Int) (s:ByteArray):List UInt8:=s.data.toList.map fun b=>UInt8.ofNat (movB lo hi d b.toNat).toNat
def q7e (w:World) (b:Nat) (lo hi d:Int) (s:ByteArray) (k:Nat):Prop :=
 ∀j (hj:j<s.data.toList.length),w.cell? ⟨b,j,none⟩=some (.int .u8 (if j<k then movB lo hi d (s.data.toList[j]).toNat else (s.data.toList[j]).toNat))
theorem qub (w:World) (e:TypeId) (lo hi d:Int) (s:ByteArray):q7e (Lib.bytesWorld w e s) w.heap.size lo hi d s 0:=by
 intro j hj
 rw[Lib.bytesWorld_cell w e s j (by simpa using hj),if_neg (by omega),List.getD_eq_getElem?_getD,List.getElem?_eq_getElem hj]
 rfl
theorem bytesWorld_below (w:World) (e:TypeId) (s:ByteArray):Below w.heap.size w (Lib.bytesWorld w e s) :=
 ⟨rfl,rfl,rfl,by rw[Lib.bytesWorld_size];omega,fun k hk=>Lib.bytesWorld_at_old w e s k hk⟩
theorem qu9 {w:World} {b:Nat} {lo hi d:Int} {s:ByteArray} {k:Nat} (h:q7e w b lo hi d s k) (hk:∀(hj:k<s.data.toList.length),¬(lo<=(s.data.toList[k]).toNat/\((s.data.toList[k]).toNat:Int)<=hi)):q7e w b lo hi d s (k+1):=by
 intro j hj
 rw[h j hj]
 by_cases h1:j<k
 .rw[if_pos h1,if_pos (by omega)]
 .by_cases h2:j=k
  .subst h2
   rw[if_neg h1,if_pos (by omega)]
   unfold movB
   rw[if_neg (hk hj)]
  .rw[if_neg h1,if_neg (by omega)]
theorem qua {w:World} {b:Nat} {lo hi d:Int} {s:ByteArray} {k:Nat} (h:q7e w b lo hi d s k) (hk:k<s.data.toList.length):q7e (w.setCell ⟨b,k,none⟩ (.int .u8 (movB lo hi d (s.data.toList[k]).toNat))) b lo hi d s (k+1):=by
 intro j hj
 by_cases h2:j=k
 .subst h2
  rw[World.cell?_setCell_same _ _ _ (h j hj)]
  rw[if_pos (by omega)]
 .rw[World.cell?_setCell_other _ _ _ _ (by simp[Ne.symm h2]),h j hj]
  by_cases h1:j<k
  .rw[if_pos h1,if_pos (by omega)]
  .rw[if_neg h1,if_neg (by omega)]
def qa4 (w:World) (b:Nat) (s:ByteArray):Prop:=∀j,j<s.size->w.frozen? ⟨b,j,none⟩=false
theorem qs6 (w:World) (e:TypeId) (s:ByteArray):qa4 (Lib.bytesWorld w e s) w.heap.size s:=by
 intro j hj
 have h:(Lib.bytesCells w e s).size >= s.size:=by unfold Lib.bytesCells;simp
 simp only[World.frozen?,Lib.bytesWorld_at_new]
 have:¬((Lib.bytesCells w e s).size<=j):=by omega
 simp[this]
theorem qs5 {w:World} {b:Nat} {s:ByteArray} (h:qa4 w b s) (k:Nat) (u:Value):qa4 (w.setCell ⟨b,k,none⟩ u) b s:=by
 intro j hj
 have:=World.frozen?_setCells b [u] k w ⟨b,j,none⟩
 simp only[World.setCells]at this
 rw[←h j hj,←this]
set_option maxRecDepth 100000 in
set_option maxHeartbeats 4000000 in
theorem qp8 (s:ByteArray) (lo hi d:Int) (w:World) (hs:s.size<=140737488351232) (hl:0<=lo/\lo<256) (hh:0<=hi/\hi<256) (hd:-256<d/\d<256) :
  Calls Tryz.prog 84 #[.string s,.int .u8 lo,.int .u8 hi,.int .i64 d] w fun e w'=>e=.returned (.string ⟨(q63 lo hi d s).toArray⟩)/\Below w.heap.size w w':=by
 have hc1:=fun (w:World)=>Lib.run_convert_string_bytes (P:=Tryz.prog) w 9 114 5 s Tryz.underlying9 Tryz.underlying114 Tryz.underlying5
 go_enter Tryz.func84,Tryz.ntmps84
 go_wp2_with fail
 go_loopw [16] (fun i wr=>∃k:Nat,k<=s.size/\i=.int .i64 k/\q7e wr w.heap.size lo hi d s k/\qa4 wr w.heap.size s/\Below w.heap.size w wr) (fun i _=>s.size-(intOf i).toNat)
 case atStart=>exact ⟨0,Nat.zero_le _,rfl,qub w _ lo hi d s,qs6 w _ s,bytesWorld_below w _ s⟩
 case round =>
  obtain ⟨k,hk,rfl,hm,hfr,hbe⟩:=hrel
  have HFR:=Lib.hid hfr
  have HM:=Lib.hid hm
  have HBE:=Lib.hid hbe
  clear hc1
  by_cases hlt:k<s.size
  .have hlt':k<s.data.toList.length:=by simpa using hlt
   have hc0:=hm k hlt'
   rw[if_neg (by omega)]at hc0
   have c1:((s.data.toList[k]).toNat:Int)<256:=by have:=(s.data.toList[k]).toNat_lt;omega
   have c2:(0:Int)<=((s.data.toList[k]).toNat:Int):=by omega
   have HQ:=Lib.hid (fun (h:¬(lo<=((s.data.toList[k]).toNat:Int)/\((s.data.toList[k]).toNat:Int)<=hi))=>qu9 hm (fun _=>h))
   have HS:=Lib.hid (qua hm hlt')
   have hf:=hfr k hlt
   clear hm hbe hfr
   generalize hq:((s.data.toList[k]).toNat:Int)=c at hc0 c1 c2 HQ HS
   by_cases h1:lo<=c
   .by_cases h2:c<=hi
    .go_wp2_with fail
     go_roundw
     case rel=>exact ⟨k+1,by omega,by go_num,by have:=HS.out;unfold movB at this;rw[if_pos ⟨h1,h2⟩]at this;exact this,qs5 HFR.out _ _,HBE.out.setCell (Nat.le_refl _) _⟩
     case measure=>simp[intOf];omega
    .have h2':hi<c:=by omega
     go_wp2_with fail
     go_roundw
     case rel=>exact ⟨k+1,by omega,by go_num,HQ.out (fun ⟨_,g⟩=>h2 g),HFR.out,HBE.out⟩
     case measure=>simp[intOf];omega
   .have h1':c<lo:=by omega
    go_wp2_with fail
    go_roundw
    case rel=>exact ⟨k+1,by omega,by go_num,HQ.out (fun ⟨g,_⟩=>h1 g),HFR.out,HBE.out⟩
    case measure=>simp[intOf];omega
  .obtain rfl:k=s.size:=by omega
   have hlen:(q63 lo hi d s).length=s.size:=by simp[q63]
   have hback:=run_convert_bytes_back (P:=Tryz.prog) wr 114 9 5 ⟨w.heap.size,0,none⟩ (grownCap w s.size 0 5) (q63 lo hi d s) Tryz.underlying114 Tryz.underlying5 Tryz.underlying9 (fun j hj=>by
    have hj':j<s.data.toList.length:=by rw[hlen]at hj;simpa using hj
    have:=hm j hj'
    rw[if_pos (by simpa using hj')]at this
    have e:(⟨w.heap.size,0,none⟩:Addr).add j=⟨w.heap.size,j,none⟩:=by simp[Addr.add];omega
    rw[e,this]
    have hb:=qkx lo hi d (s.data.toList[j]).toNat (by omega) (by have:=(s.data.toList[j]).toNat_lt;omega)
    simp only[q63,List.getElem_map]
    congr 2
    generalize movB lo hi d _=m at hb ⊢
    have hm':m.toNat<256:=by omega
    rw[UInt8.toNat_ofNat_of_lt' hm']
    omega)
   rw[hlen]at hback
   clear hm hbe hfr
   go_wp2_with fail
   go_ret
   exact ⟨rfl,HBE.out⟩
namespace Abs
variable {E : World -> Prop} {E0 : Nat} {G : Nat -> Option (List PV)}
noncomputable def q9j (s:ByteArray) (lo hi d:Int):Option ByteArray:=gd (s.size<=140737488351232/\(0<=lo/\lo<256)/\(0<=hi/\hi<256)/\(-256<d/\d<256)) ⟨(q63 lo hi d s).toArray⟩
theorem u8Rep {X:Cx} {w:World} {k:IntKind} {n:Int} {u:Value} (h:qf X w (.cell (vI k n)) u):u=.int k n:=by
 simp only[qf,CRep,PRep]at h
 exact h.1
theorem qh6 (hb:Base E E0 G) (_he:∀w,E w->EnvV w) (s:ByteArray) (lo hi d:Int) (r:ByteArray) (h:q9j s lo hi d=some r):Pure E E0 Tryz.prog 84 [.cell (vS s),.cell (vI .u8 lo),.cell (vI .u8 hi),.cell (vi d)] (c1 (vS r)):=by
 obtain ⟨⟨h1,h2,h3,h4⟩,rfl⟩:=q2t h
 refine Pure.of hb fun X w vs hE hv=>?_
 match vs,hv with
 | [u,v,x,y],⟨k1,k2,k3,k4,_⟩ =>
  rw[q4a k1,u8Rep k2,u8Rep k3,qb7 k4]
  exact (qp8 s lo hi d w h1 h2 h3 h4).mono fun e w' ⟨e1,e2⟩=>⟨_,e1,e2,fun X'=>q4l q74⟩
end Abs
end Go.Proofs.YtagadjpmkggjdaaGreatDoor
namespace Go.Proofs.YtagadjpmkggjdaaGreatDoor
namespace Abs
open Go.RowKit Go.Lib Go.Sort
set_option maxHeartbeats 2000000
set_option linter.unusedVariables false
set_option linter.unusedSimpArgs false
theorem qu1 (pb kb ko kn cap:Nat) (a b:ByteArray) (i j:Nat) (w:World) (h0:w.cell? ⟨pb,0,none⟩=some (.slice (some ⟨kb,ko,none⟩) kn cap)) (hi:i<kn) (hj:j<kn)
  (ha:w.cell? ⟨kb,ko+i,none⟩=some (.string a)) (hb:w.cell? ⟨kb,ko+j,none⟩=some (.string b)) :
  Calls Tryz.prog 150 #[.int .i64 (i:Int),.int .i64 (j:Int),.pointer (some ⟨pb,0,none⟩)] w fun e w'=>e=.returned (.int .i64 (cmpS a b))/\∃q os,w'=Sort.grow (w.drewN q) os:=by
 have hcmp:=fun W=>Tryz.strings_Compare a b W
 go_enter Tryz.func150,Tryz.ntmps150
 go_wp2
 go_quiet ((go_at_call 151;exact Calls.quiet_of_same (hcmp _)))
 go_wp2_with fail
 go_ret
 exact ⟨rfl,_,#[],by rw[Sort.grow_empty]⟩
abbrev Plc (keys:List ByteArray):={i:Nat // i<keys.length}
def cmpP (keys:List ByteArray) (a b:Plc keys):Int:=cmpS (keys[a.1]'a.2) (keys[b.1]'b.2)
def encP (keys:List ByteArray) (a:Plc keys):Value:=.int .i64 (a.1:Int)
theorem swoP (keys:List ByteArray):SWO (ltOf (cmpP keys)) where
 irrefl x:=swoS.irrefl _
 trans x y z h k:=swoS.trans _ _ _ h k
 ntrans x y z h k:=swoS.ntrans _ _ _ h k
def plcs (keys:List ByteArray) (xs:List Int) (h:∀x∈xs,0<=x/\x<keys.length):List (Plc keys):=xs.attach.map fun x=>⟨x.1.toNat,by have:=h x.1 x.2;omega⟩
theorem qlq (keys:List ByteArray) (xs:List Int) (h:∀x∈xs,0<=x/\x<keys.length):(plcs keys xs h).map (fun a=>(a.1:Int))=xs:=by
 unfold plcs
 rw[List.map_map]
 refine Eq.trans ?_ (List.attach_map_subtype_val xs)
 exact List.map_congr_left fun x _=>by
  have:=h x.1 x.2
  show ((x.1.toNat:Nat):Int)=x.1
  omega
theorem qlp (keys:List ByteArray) (xs:List Int) (h:∀x∈xs,0<=x/\x<keys.length):(plcs keys xs h).length=xs.length:=by simp[plcs]
def q6e (keys:List ByteArray) (xs:List Int):Option (List Int) :=
 if xs=[] then some []
 else if h:0<keys.length/\xs.length<4611686018427387904/\∀x∈xs,0<=x/\x<keys.length then
  some ((@q2o (Plc keys) ⟨⟨0,h.1⟩⟩ (cmpP keys) (plcs keys xs h.2.2)).map fun a=>(a.1:Int))
 else none
theorem qty {keys:List ByteArray} {xs ys:List Int} (e:q6e keys xs=some ys):ys.length=xs.length:=by
 unfold q6e at e
 split at e
 .rename_i h;simp at e;subst e;rw[h]
 .split at e
  .rename_i h
   obtain rfl:=Option.some.inj e
   rw[List.length_map,(@q3k (Plc keys) ⟨⟨0,h.1⟩⟩ _ (swoP keys) _).1.length_eq,qlp]
  .cases e
section
variable {E : World -> Prop} {E0 : Nat} {G : Nat -> Option (List PV)}
theorem qu0 {σ:Sto} {b:Nat} {keys:List ByteArray} (hk:σ[b]?=some (some (.box [vL flS keys]))) (x y:Plc keys) :
  OkQ E E0 Tryz.prog 150 (.cell (.pv (.sc (encP keys x)))::.cell (.pv (.sc (encP keys y)))::q5j [(b,0,0)]) σ (.int .i64 (cmpP keys x y)):=by
 intro X w vs hσ hn hi hv
 subst hσ
 match vs,hv with
 | [u,v,p],⟨hu,hv,hp,_⟩ =>
 have eu:u=_:=hu.1
 have ev:v=_:=hv.1
 subst eu;subst ev
 have hlv:live X.σ b 0=some (.box [vL flS keys]):=by unfold live;rw[hk];rfl
 obtain ⟨q1,q2,l,hl,rfl⟩:=q8g hp hlv
 obtain ⟨sv,h0,hsv⟩:=q9n hi q2 q1 hl 0 (vL flS keys) rfl
 have hsv':PRep X.prot w (.sl false keys.length (flS.f keys)) sv:=hsv
 unfold PRep at hsv'
 have hx:=x.2
 have hy:=y.2
 rcases hsv' with ⟨_,e,_⟩|⟨kb,ko,cap,rfl,_,_,hc⟩|⟨e,_⟩
 .omega
 .obtain ⟨u,ha,_,hu⟩:=hc.get x.1 (.sc (.string keys[x.1])) (by simp[flS,strP,hx])
  obtain ⟨v,hb,_,hv⟩:=hc.get y.1 (.sc (.string keys[y.1])) (by simp[flS,strP,hy])
  have eu:u=_:=hu.1
  have ev:v=_:=hv.1
  subst eu;subst ev
  exact qu1 l.1 kb ko keys.length cap keys[x.1] keys[y.1] x.1 y.1 w h0 hx hy ha hb
 .omega
theorem vO_I (id:Nat) (xs:List Int):vO (flI .i64) id xs=.own id xs.length 0 xs.length:=by
 unfold vO
 rw[(flI .i64).length]
 simp[flI]
theorem qmn (keys:List ByteArray) (d:List (Plc keys)):rowC (encP keys) d=(flI .i64).f (d.map fun a=>(a.1:Int)):=by simp[rowC,flI,encP,pI]
theorem qys (hb:Base E E0 G) (_he:∀w,E w->EnvV w) {σ:Sto} (id:Nat) (nb:Bool) (b:Nat) (keys:List ByteArray) (xs:List Int) (ho:σ[id]?=some (some (arO nb (flI .i64).sz 0 ((flI .i64).f xs)))) (hk:σ[b]?=some (some (.box [vL flS keys]))) (y:List Int) (e:q6e keys xs=some y) :
  Ok E E0 Tryz.prog 149 [.cell (vO (flI .i64) id xs),.cell (.fn 150 [(b,0,0)])] σ (.tup []) (σ.set id (some (arO nb (flI .i64).sz 0 ((flI .i64).f y)))):=by
 have hne:∀o,(σ.set id o)[b]?=σ[b]?:=fun o=>by
  rw[List.getElem?_set_ne]
  intro k
  subst k
  rw[ho]at hk
  simp only[Option.some.injEq]at hk
  rcases q31 nb (flI .i64).sz 0 ((flI .i64).f xs) with e|⟨_,e⟩<;>rw[e]at hk<;>cases hk
 unfold q6e at e
 split at e
 .rename_i hx
  simp at e;subst e;subst hx
  rw[q76 ho]
  exact qn5 Tryz.laysSlF6_f149 (g:=150) (caps:=[(b,0,0)]) ho
 .split at e
  .rename_i h
   obtain rfl:=Option.some.inj e
   have h1:=qlq keys xs h.2.2
   have h2:=qlp keys xs h.2.2
   generalize plcs keys xs h.2.2=ds at h1 h2 ⊢
   letI:Inhabited (Plc keys):=⟨⟨0,h.1⟩⟩
   rw[vO_I,←qmn,←h2]
   rw[←h1,←qmn]at ho
   exact qyv Tryz.laysSlF6_f149 hb (enc:=encP keys) (fun _=>rfl) (swoP keys) (g:=150) (caps:=[(b,0,0)]) (ds:=ds) (enters_of Tryz.func150 (by kernel_rfl) rfl) ho (by omega) (fun d _ x y=>qu0 (by rw[hne];exact hk) x y)
  .cases e
end
end Abs
end Go.Proofs.YtagadjpmkggjdaaGreatDoor
namespace Go.Proofs.YtagadjpmkggjdaaGreatDoor
set_option linter.unusedSimpArgs false
set_option linter.unusedVariables false
namespace Abs
open Go.RowKit
variable {E : World -> Prop} {E0 : Nat} {G : Nat -> Option (List PV)}
theorem qpr (w:World) (s:ByteArray) (pos:Nat):Below w.heap.size w (w.iter s pos):=q34 w _
noncomputable def qer (s:ByteArray):Option Int:=gd (s.size<=140737488355328) (Lib.runeCount s)
theorem qyf (hb:Base E E0 G) (_he:∀w,E w->EnvV w) (s:ByteArray) (r:Int) (h:qer s=some r):Pure E E0 Tryz.prog 193 [.cell (vS s)] (c1 (vi r)):=by
 obtain ⟨h1,rfl⟩:=q2t h
 refine Pure.of hb fun X w vs hE hv=>?_
 match vs,hv with
 | [u],⟨k1,_⟩ =>
  rw[q4a k1]
  refine (Tryz.utf8_RuneCountInString s w (by omega)).mono fun e w' ⟨e1,pos,e2⟩=>⟨_,e1,?_,fun X'=>q4l q6j⟩
  subst e2
  exact qpr w s pos
end Abs
end Go.Proofs.YtagadjpmkggjdaaGreatDoor
