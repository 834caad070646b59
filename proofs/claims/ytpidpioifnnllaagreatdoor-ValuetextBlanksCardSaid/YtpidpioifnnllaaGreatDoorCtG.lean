/-
  Contracts of Go's library and of functions walked by hand, in the form that printed proofs use.
  Contracts of the reference's numbers, in the form that printed proofs use.
  Small contracts of the Valuetext seat: strings.IndexByte, HasPrefix, Repeat, utf8.ValidRune, the reference's Decode; the reader's fail, which only panics.
  slices.SortFunc of strings by strings.Compare.
  slices.SortFunc of places by the keys at them (value.Map).
-/
import Derived.Test.YtpidpioifnnllaaGreatDoorKnot
import Derived.Test.YtpidpioifnnllaaGreatDoorACc
import Derived.Test.YtpidpioifnnllaaGreatDoorABr
import Derived.Test.YtpidpioifnnllaaGreatDoorNumG
import Derived.Test.YtpidpioifnnllaaGreatDoorAbsX
import Derived.Test.YtpidpioifnnllaaGreatDoorFlA
import Derived.Test.YtpidpioifnnllaaGreatDoorShelf
import Derived.Test.YtpidpioifnnllaaGreatDoorUtf
import Derived.DiesAll
import Derived.Test.YtpidpioifnnllaaGreatDoorValD
import Derived.Test.YtpidpioifnnllaaGreatDoorAbsS
import Derived.Deep.QuietTactic
import Derived.BigQuiet
namespace Go.Proofs.YtpidpioifnnllaaGreatDoor
namespace Abs
open Go.RowKit
variable {E : World → Prop} {E0 : Nat} {G : Nat → Option (List PV)}
def clone {α:Type} (by_:Nat) (l:List α):Option (List α):=if l.length*by_≤140737488355328 then some l else none
theorem qq2 {α:Type} {by_:Nat} {l r:List α} (h:clone by_ l=some r):r=l∧l.length*by_≤140737488355328:=by
 unfold clone at h
 split at h
 ·rename_i hc; simp at h; exact ⟨h.symm,hc⟩
 ·cases h
theorem qq0 (hb:Base E E0 G) (_he:∀ w,E w→EnvV w) (l r:List ByteArray) (h:clone 16 l=some r):Pure E E0 Tryz.prog 136 [.cell (vL flS l)] (c1 (vL flS r)):=by
 obtain ⟨rfl,hn⟩:=qq2 h
 exact qq1 hb r.length (r.map strP) hn (by simp)
noncomputable def q5m (x:Val):Option Int:=gd x.Fits (q1y x)
noncomputable def q31 (s:ByteArray):Option (Int×Int):=gd (s.size≤281474976710656) (NumPlain.parseB s)
noncomputable def q7g (n:Int):Option ByteArray:=gd (-9223372036854775808≤n∧n≤9223372036854775807) (fmtB n)
theorem qmm (hb:Base E E0 G) (_he:∀ w,E w→EnvV w) (x:Val) (r:Int) (h:q5m x=some r):Pure E E0 Tryz.prog 21 [.agg (aV x)] (c1 (vi r)):=by
 obtain ⟨hf,rfl⟩:=q4s h
 exact qv7 hb x hf
theorem quk (hb:Base E E0 G) (he:∀ w,E w→EnvV w) (x:Val) (r:Int) (h:q5m x=some r):Pure E E0 Tryz.prog 26 [.agg (aV x)] (c1 (vi r)):=by
 obtain ⟨hf,rfl⟩:=q4s h
 exact qul hb he x hf
theorem qfi (hb:Base E E0 G) (he:∀ w,E w→EnvV w) (s:ByteArray) (r:Int×Int) (h:q31 s=some r):Pure E E0 Tryz.prog 98 [.cell (vS s)] (.tup [.cell (vi r.1),.cell (vi r.2)]):=by
 obtain ⟨hf,rfl⟩:=q4s h
 exact qus hb he s hf
theorem qrf (hb:Base E E0 G) (he:∀ w,E w→EnvV w) (n:Int) (r:ByteArray) (h:q7g n=some r):Pure E E0 Tryz.prog 51 [.cell (vi n)] (c1 (vS r)):=by
 obtain ⟨hf,rfl⟩:=q4s h
 exact qrg hb he n hf.1 hf.2
end Abs
end Go.Proofs.YtpidpioifnnllaaGreatDoor
namespace Go.Proofs.YtpidpioifnnllaaGreatDoor
namespace Abs
open Go.RowKit
variable {E : World → Prop} {E0 : Nat} {G : Nat → Option (List PV)}
theorem qbt (hb:Base E E0 G) (_he:∀ w,E w→EnvV w) (s:ByteArray) (r:Int×Int) (h:q31 s=some r):Pure E E0 Tryz.prog 49 [.cell (vS s)] (.tup [.cell (vi r.1),.cell (vi r.2)]):=by
 obtain ⟨hf,rfl⟩:=q4s h
 exact Pure.of hb fun X w vs hE hv=>match vs,hv with
  | [u],⟨h1,_⟩=>by
   rw[q4g h1]
   exact (qvu s w (by unfold maxLen; omega)).mono fun e w' ⟨k1,k2⟩=>⟨_,k1,by rw[k2]; exact Below.refl _ _,fun X'=>⟨_,rfl,q2k,q2k,trivial⟩⟩
theorem qv8 (hb:Base E E0 G) (_he:∀ w,E w→EnvV w) (n:Int) (r:ByteArray) (h:q7g n=some r):Pure E E0 Tryz.prog 37 [.cell (vi n)] (c1 (vS r)):=by
 obtain ⟨hf,rfl⟩:=q4s h
 exact Pure.of hb fun X w vs hE hv=>match vs,hv with
  | [u],⟨h2,_⟩=>by
   rw[q6a h2]
   exact (qvq n w hf.1 hf.2).mono fun e w' ⟨k1,k2⟩=>⟨_,k1,k2,fun X'=>q4c q53⟩
end Abs
end Go.Proofs.YtpidpioifnnllaaGreatDoor
namespace Go.Proofs.YtpidpioifnnllaaGreatDoor
set_option linter.unusedSimpArgs false
set_option linter.unusedVariables false
namespace Abs
open Go.RowKit
variable {E : World → Prop} {E0 : Nat} {G : Nat → Option (List PV)}
theorem qjw {X:Cx} {w:World} {k:IntKind} {n:Int} {u:Value} (h:q9 X w (.cell (vI k n)) u):u=.int k n:=by
 have h':PRep X.prot w (.sc (.int k n)) u:=h
 unfold PRep at h'
 exact h'.1
noncomputable def q6f (s:ByteArray) (c:Int):Option Int:=some (Lib.indexByte s.data.toList c.toNat.toUInt8)
theorem qju (hb:Base E E0 G) (_he:∀ w,E w→EnvV w) (s:ByteArray) (c r:Int) (h:q6f s c=some r):Pure E E0 Tryz.prog 94 [.cell (vS s),.cell (vI .u8 c)] (c1 (vi r)):=by
 cases h
 refine Pure.of hb fun X w vs hE hv=>?_
 match vs,hv with
 | [u,v],⟨k1,k2,_⟩ =>
  rw[q4g k1,qjw k2]
  exact (Tryz.strings_IndexByte s c w).mono fun e w' ⟨e1,e2⟩=>⟨_,e1,by rw[e2]; exact Below.refl _ _,fun X'=>q4c q2k⟩
noncomputable def q7h (s p:ByteArray):Option Bool:=some (Lib.hasPrefix s.data.toList p.data.toList)
theorem qaz (hb:Base E E0 G) (_he:∀ w,E w→EnvV w) (s p:ByteArray) (r:Bool) (h:q7h s p=some r):Pure E E0 Tryz.prog 54 [.cell (vS s),.cell (vS p)] (c1 (vB r)):=by
 cases h
 refine Pure.of hb fun X w vs hE hv=>?_
 match vs,hv with
 | [u,v],⟨k1,k2,_⟩ =>
  rw[q4g k1,q4g k2]
  exact (Tryz.strings_HasPrefix s p w).mono fun e w' ⟨e1,e2⟩=>⟨_,e1,by rw[e2]; exact Below.refl _ _,fun X'=>q4c qmr⟩
noncomputable def q33 (c:Int):Option Bool:=some (Lib.validRune c)
theorem q82 (hb:Base E E0 G) (_he:∀ w,E w→EnvV w) (c:Int) (r:Bool) (h:q33 c=some r):Pure E E0 Tryz.prog 142 [.cell (vI .i32 c)] (c1 (vB r)):=by
 cases h
 refine Pure.of hb fun X w vs hE hv=>?_
 match vs,hv with
 | [u],⟨k1,_⟩ =>
  rw[qjw k1]
  exact (Tryz.utf8_ValidRune c w).mono fun e w' ⟨e1,e2⟩=>⟨_,e1,by rw[e2]; exact Below.refl _ _,fun X'=>q4c qmr⟩
noncomputable def q96 (s:ByteArray) (n:Int):Option ByteArray:=gd (0≤n∧n≤64∧s.size≤64) ⟨(Lib.repeatL s.data.toList n.toNat).toArray⟩
theorem qmu (hb:Base E E0 G) (_he:∀ w,E w→EnvV w) (s:ByteArray) (n:Int) (r:ByteArray) (h:q96 s n=some r):Pure E E0 Tryz.prog 32 [.cell (vS s),.cell (vi n)] (c1 (vS r)):=by
 obtain ⟨⟨h1,h2,h3⟩,rfl⟩:=q4s h
 refine Pure.of hb fun X w vs hE hv=>?_
 match vs,hv with
 | [u,v],⟨k1,k2,_⟩ =>
  rw[q4g k1,q6a k2]
  have hn:n=((n.toNat:Nat):Int):=by omega
  rw[hn]
  have hm:s.size*n.toNat≤64*64:=Nat.mul_le_mul h3 (by omega)
  refine (Tryz.strings_Repeat s n.toNat w (by omega) (by omega)).mono fun e w' ⟨e1,e2⟩=>⟨_,e1,e2,fun X'=>q4c q53⟩
noncomputable def qbg (s:ByteArray) (i:Int):Option Int:=gd (s.size≤140737488351232∧0≤i∧i < s.size) (rlen s i.toNat)
theorem rdec_g (hb:Base E E0 G) (_he:∀ w,E w→EnvV w) (s:ByteArray) (i r:Int) (h:qbg s i=some r):Pure E E0 Tryz.prog 108 [.cell (vS s),.cell (vi i)] (.tup [.cell .any,.cell (vi r)]):=by
 obtain ⟨⟨h1,h2,h3⟩,rfl⟩:=q4s h
 refine Pure.of hb fun X w vs hE hv=>?_
 match vs,hv with
 | [u,v],⟨k1,k2,_⟩ =>
  rw[q4g k1,q6a k2]
  have hn:i=((i.toNat:Nat):Int):=by omega
  rw[show (Value.int .i64 i)=.int .i64 ((i.toNat:Nat):Int) by rw[← hn]]
  refine (qmn s i.toNat w h1 (by omega)).mono fun e w' ⟨⟨c,e1⟩,e2⟩=>⟨_,e1,e2,fun X'=>?_⟩
  exact ⟨_,rfl,trivial,q2k,trivial⟩
def relN (y x:Int):Prop:=0≤y∧y < x
theorem wfN:WellFounded relN:=by
 refine Subrelation.wf (r:=fun y x:Int=>y.toNat < x.toNat) (fun {y x} h=>?_) (InvImage.wf (fun x:Int=>x.toNat) Nat.lt_wfRel.wf)
 unfold relN at h
 omega
def dD (p:Int×Int):Value:=.iface 32 (.agg #[.int .i64 p.1,.int .i64 p.2,.string ⟨#[]⟩])
theorem q3a (hb:Base E E0 G) (he:∀ w,E w→EnvV w) (s:ByteArray) (a k at_:Int):Dies E E0 Tryz.prog [some (.box [vS s,vi a])] 42 [.cell (.ptr 0 0 0),.cell (vi k),.cell (vi at_)] (dD (k,at_)):=by
 intro X w vs h1 h2 h3 h4
 match vs,h4 with
 | [u,v,x],⟨k1,k2,k3,_⟩ =>
  rw[q6a k2,q6a k3]
  refine Calls.mono (R:=fun e w'=>e=.panicked [{ v:=dD (k,at_),recovered:=false }]∧w'=w) ?_ ?_
  ·go_enter Tryz.func42,Tryz.ntmps42
   go_wp2
   exact ⟨rfl,rfl,rfl⟩
  ·rintro e w' ⟨rfl,rfl⟩
   exact ⟨rfl,X,h2,h3,Ext.refl _ _⟩
end Abs
end Go.Proofs.YtpidpioifnnllaaGreatDoor
namespace Go.Proofs.YtpidpioifnnllaaGreatDoor
namespace Abs
open Go.RowKit Go.Lib Go.Sort
set_option linter.unusedVariables false
set_option linter.unusedSimpArgs false
theorem ql4 (x y:UInt8) (h:¬ x < y) (h':¬ y < x):x=y:=UInt8.le_antisymm (UInt8.not_lt.1 h') (UInt8.not_lt.1 h)
theorem ltC:∀ a b:List UInt8,decide (compareBytes a b < 0)=Op.bytesLess a b
 | [],[]=>rfl
 | [],_::_=>by simp[compareBytes,Op.bytesLess]
 | _::_,[]=>by simp[compareBytes,Op.bytesLess]
 | x::a,y::b=>by
  unfold compareBytes Op.bytesLess
  by_cases h:x < y
  ·simp[h]
  ·by_cases h':y < x
   ·have hne:¬ x=y:=fun e=>by subst e; exact h h'
    simp[h,h',hne]
   ·obtain rfl:=ql4 x y h h'
    rw[if_neg h,if_neg h]
    simp[h,ltC a b]
theorem qhi:∀ l:List UInt8,Op.bytesLess l l=false
 | []=>rfl
 | x::r=>by simp[Op.bytesLess,qhi r,UInt8.lt_irrefl]
theorem qd7:∀ {a b c:List UInt8},Op.bytesLess a b=true→Op.bytesLess b c=true→Op.bytesLess a c=true
 | [],[],_,h,_=>by simp[Op.bytesLess]at h
 | _::_,[],_,h,_=>by simp[Op.bytesLess]at h
 | _,_::_,[],_,h=>by simp[Op.bytesLess]at h
 | [],_::_,_::_,_,_=>by simp[Op.bytesLess]
 | x::a,y::b,z::c,h,k=>by
  simp only[Op.bytesLess,Bool.or_eq_true,Bool.and_eq_true,decide_eq_true_eq,beq_iff_eq]at h k ⊢
  rcases h with h | ⟨rfl,h⟩
  ·rcases k with k | ⟨rfl,k⟩
   ·exact .inl (UInt8.lt_trans h k)
   ·exact .inl h
  ·rcases k with k | ⟨rfl,k⟩
   ·exact .inl k
   ·exact .inr ⟨rfl,qd7 h k⟩
theorem qd6:∀ {a b:List UInt8},Op.bytesLess a b=false→Op.bytesLess b a=false→a=b
 | [],[],_,_=>rfl
 | [],_::_,h,_=>by simp[Op.bytesLess]at h
 | _::_,[],_,h=>by simp[Op.bytesLess]at h
 | x::a,y::b,h,k=>by
  simp only[Op.bytesLess,Bool.or_eq_false_iff,Bool.and_eq_false_iff,decide_eq_false_iff_not,beq_eq_false_iff_ne]at h k
  obtain rfl:=ql4 x y h.1 k.1
  rw[qd6 (h.2.resolve_left fun k=>k rfl) (k.2.resolve_left fun k=>k rfl)]
theorem qpp {a b c:List UInt8} (h:Op.bytesLess a b=false) (k:Op.bytesLess b c=false):Op.bytesLess a c=false:=by
 cases e:Op.bytesLess a c with
 | false=>rfl
 | true =>
  cases e2:Op.bytesLess b a with
  | true=>rw[qd7 e2 e]at k; cases k
  | false=>rw[qd6 h e2]at e; rw[e]at k; cases k
def cmpS (a b:ByteArray):Int:=compareBytes a.data.toList b.data.toList
theorem ltS (a b:ByteArray):ltOf cmpS a b=Op.bytesLess a.toList b.toList:=by
 unfold ltOf cmpS
 rw[ltC,ByteArray.toList_eq,ByteArray.toList_eq]
theorem swoS:SWO (ltOf cmpS) where
 irrefl x:=by rw[ltS]; exact qhi _
 trans x y z h k:=by rw[ltS]at *; exact qd7 h k
 ntrans x y z h k:=by rw[ltS]at *; exact qpp h k
section
variable {E : World → Prop} {E0 : Nat} {G : Nat → Option (List PV)}
end
end Abs
end Go.Proofs.YtpidpioifnnllaaGreatDoor
namespace Go.Proofs.YtpidpioifnnllaaGreatDoor
namespace Abs
open Go.RowKit Go.Lib Go.Sort
set_option maxHeartbeats 2000000
set_option linter.unusedVariables false
set_option linter.unusedSimpArgs false
theorem qsz (pb kb ko kn cap:Nat) (a b:ByteArray) (i j:Nat) (w:World) (h0:w.cell? ⟨pb,0,none⟩=some (.slice (some ⟨kb,ko,none⟩) kn cap)) (hi:i < kn) (hj:j < kn)
  (ha:w.cell? ⟨kb,ko+i,none⟩=some (.string a)) (hb:w.cell? ⟨kb,ko+j,none⟩=some (.string b)) :
  Calls Tryz.prog 115 #[.int .i64 (i:Int),.int .i64 (j:Int),.pointer (some ⟨pb,0,none⟩)] w fun e w'=>e=.returned (.int .i64 (cmpS a b))∧∃ q os,w'=Sort.grow (w.drewN q) os:=by
 have hcmp:=fun W=>Tryz.strings_Compare a b W
 go_enter Tryz.func115,Tryz.ntmps115
 go_wp2
 go_quiet ((go_at_call 116; exact Calls.quiet_of_same (hcmp _)))
 go_wp2_with fail
 go_ret
 exact ⟨rfl,_,#[],by rw[Sort.grow_empty]⟩
abbrev Plc (keys:List ByteArray):={i:Nat // i < keys.length}
def cmpP (keys:List ByteArray) (a b:Plc keys):Int:=cmpS (keys[a.1]'a.2) (keys[b.1]'b.2)
def encP (keys:List ByteArray) (a:Plc keys):Value:=.int .i64 (a.1:Int)
theorem swoP (keys:List ByteArray):SWO (ltOf (cmpP keys)) where
 irrefl x:=swoS.irrefl _
 trans x y z h k:=swoS.trans _ _ _ h k
 ntrans x y z h k:=swoS.ntrans _ _ _ h k
def plcs (keys:List ByteArray) (xs:List Int) (h:∀ x ∈ xs,0≤x∧x < keys.length):List (Plc keys):=xs.attach.map fun x=>⟨x.1.toNat,by have:=h x.1 x.2; omega⟩
theorem qm9 (keys:List ByteArray) (xs:List Int) (h:∀ x ∈ xs,0≤x∧x < keys.length):(plcs keys xs h).map (fun a=>(a.1:Int))=xs:=by
 unfold plcs
 rw[List.map_map]
 refine Eq.trans ?_ (List.attach_map_subtype_val xs)
 exact List.map_congr_left fun x _=>by
  have:=h x.1 x.2
  show ((x.1.toNat:Nat):Int)=x.1
  omega
theorem qm8 (keys:List ByteArray) (xs:List Int) (h:∀ x ∈ xs,0≤x∧x < keys.length):(plcs keys xs h).length=xs.length:=by simp[plcs]
def q5n (keys:List ByteArray) (xs:List Int):Option (List Int) :=
 if xs=[] then some []
 else if h:0 < keys.length∧xs.length < 4611686018427387904∧∀ x ∈ xs,0≤x∧x < keys.length then
  some ((@q5u (Plc keys) ⟨⟨0,h.1⟩⟩ (cmpP keys) (plcs keys xs h.2.2)).map fun a=>(a.1:Int))
 else none
theorem qsx {keys:List ByteArray} {xs ys:List Int} (e:q5n keys xs=some ys):ys.length=xs.length:=by
 unfold q5n at e
 split at e
 ·rename_i h; simp at e; subst e; rw[h]
 ·split at e
  ·rename_i h
   obtain rfl:=Option.some.inj e
   rw[List.length_map,(@q7y (Plc keys) ⟨⟨0,h.1⟩⟩ _ (swoP keys) _).1.length_eq,qm8]
  ·cases e
section
variable {E : World → Prop} {E0 : Nat} {G : Nat → Option (List PV)}
theorem qsy {σ:Sto} {b:Nat} {keys:List ByteArray} (hk:σ[b]?=some (some (.box [vL flS keys]))) (x y:Plc keys) :
  OkQ E E0 Tryz.prog 115 (.cell (.pv (.sc (encP keys x)))::.cell (.pv (.sc (encP keys y)))::q4p [(b,0,0)]) σ (.int .i64 (cmpP keys x y)):=by
 intro X w vs hσ hn hi hv
 subst hσ
 match vs,hv with
 | [u,v,p],⟨hu,hv,hp,_⟩ =>
 have eu:u=_:=hu.1
 have ev:v=_:=hv.1
 subst eu; subst ev
 have hlv:live X.σ b 0=some (.box [vL flS keys]):=by unfold live; rw[hk]; rfl
 obtain ⟨q1,q2,l,hl,rfl⟩:=q5r hp hlv
 obtain ⟨sv,h0,hsv⟩:=q7m hi q2 q1 hl 0 (vL flS keys) rfl
 have hsv':PRep X.prot w (.sl false keys.length (flS.f keys)) sv:=hsv
 unfold PRep at hsv'
 have hx:=x.2
 have hy:=y.2
 rcases hsv' with ⟨_,e,_⟩ | ⟨kb,ko,cap,rfl,_,_,hc⟩ | ⟨e,_⟩
 ·omega
 ·obtain ⟨u,ha,_,hu⟩:=hc.get x.1 (.sc (.string keys[x.1])) (by simp[flS,strP,hx])
  obtain ⟨v,hb,_,hv⟩:=hc.get y.1 (.sc (.string keys[y.1])) (by simp[flS,strP,hy])
  have eu:u=_:=hu.1
  have ev:v=_:=hv.1
  subst eu; subst ev
  exact qsz l.1 kb ko keys.length cap keys[x.1] keys[y.1] x.1 y.1 w h0 hx hy ha hb
 ·omega
theorem vO_I (id:Nat) (xs:List Int):vO (flI .i64) id xs=.own id xs.length 0 xs.length:=by
 unfold vO
 rw[(flI .i64).length]
 simp[flI]
theorem qn1 (keys:List ByteArray) (d:List (Plc keys)):rowC (encP keys) d=(flI .i64).f (d.map fun a=>(a.1:Int)):=by simp[rowC,flI,encP,pI]
theorem qw1 (hb:Base E E0 G) (_he:∀ w,E w→EnvV w) {σ:Sto} (id:Nat) (nb:Bool) (b:Nat) (keys:List ByteArray) (xs:List Int) (ho:σ[id]?=some (some (arO nb (flI .i64).sz 0 ((flI .i64).f xs)))) (hk:σ[b]?=some (some (.box [vL flS keys]))) (y:List Int) (e:q5n keys xs=some y) :
  Ok E E0 Tryz.prog 114 [.cell (vO (flI .i64) id xs),.cell (.fn 115 [(b,0,0)])] σ (.tup []) (σ.set id (some (arO nb (flI .i64).sz 0 ((flI .i64).f y)))):=by
 have hne:∀ o,(σ.set id o)[b]?=σ[b]?:=fun o=>by
  rw[List.getElem?_set_ne]
  intro k
  subst k
  rw[ho]at hk
  simp only[Option.some.injEq]at hk
  rcases q2r nb (flI .i64).sz 0 ((flI .i64).f xs) with e | ⟨_,e⟩ <;> rw[e]at hk <;> cases hk
 unfold q5n at e
 split at e
 ·rename_i hx
  simp at e; subst e; subst hx
  rw[q7w ho]
  exact qng Tryz.laysSlF6_f114 (g:=115) (caps:=[(b,0,0)]) ho
 ·split at e
  ·rename_i h
   obtain rfl:=Option.some.inj e
   have h1:=qm9 keys xs h.2.2
   have h2:=qm8 keys xs h.2.2
   generalize plcs keys xs h.2.2=ds at h1 h2 ⊢
   letI:Inhabited (Plc keys):=⟨⟨0,h.1⟩⟩
   rw[vO_I,← qn1,← h2]
   rw[← h1,← qn1]at ho
   exact qw2 Tryz.laysSlF6_f114 hb (enc:=encP keys) (fun _=>rfl) (swoP keys) (g:=115) (caps:=[(b,0,0)]) (ds:=ds) (enters_of Tryz.func115 (by kernel_rfl) rfl) ho (by omega) (fun d _ x y=>qsy (by rw[hne]; exact hk) x y)
  ·cases e
end
end Abs
end Go.Proofs.YtpidpioifnnllaaGreatDoor
