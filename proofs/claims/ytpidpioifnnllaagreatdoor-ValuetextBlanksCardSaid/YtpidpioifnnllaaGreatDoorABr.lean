/-
  From contracts about worlds to contracts about plain values.
-/
import Derived.Test.YtpidpioifnnllaaGreatDoorACa
import Derived.Test.YtpidpioifnnllaaGreatDoorNumG
import Derived.Test.YtpidpioifnnllaaGreatDoorValE
namespace Go.Proofs.YtpidpioifnnllaaGreatDoor
set_option linter.unusedSimpArgs false
set_option linter.unusedVariables false
namespace Abs
open Go.RowKit
variable {E : World → Prop} {E0 : Nat} {G : Nat → Option (List PV)}
theorem qk7 {prot:Nat→Nat→Prop} {w:World} {b:Nat}:∀ {off:Nat} {l:List ByteArray},qh prot w b off (l.map strP)→q44 w b off l
 | _,[],_=>trivial
 | off,s::r,h=>by
  rw[List.map_cons]at h
  unfold qh at h
  obtain ⟨⟨u,e1,_,e2⟩,e3⟩:=h
  simp only[strP]at e2
  unfold PRep at e2
  exact ⟨by rw[e1,e2.1],qk7 e3⟩
theorem qrz {prot:Nat→Nat→Prop} {w:World} {l:List ByteArray} {u:Value} (h:PRep prot w (.sl false l.length (l.map strP)) u):q3s w u l:=by
 unfold PRep at h
 rcases h with ⟨h1,h2,_⟩ | ⟨b,off,cap,h1,h2,_,h3⟩ | ⟨h2,_,a,cap,h1,_⟩
 ·obtain rfl:l=[]:=List.eq_nil_of_length_eq_zero h2
  exact ⟨none,0,by simpa using h1,by simp,.inl rfl⟩
 ·exact ⟨_,cap,h1,h2,.inr ⟨b,off,rfl,qk7 h3⟩⟩
 ·obtain rfl:l=[]:=List.eq_nil_of_length_eq_zero h2
  exact ⟨some a,cap,by simpa using h1,by simp,.inl rfl⟩
theorem qs0 {prot:Nat→Nat→Prop} {w:World} (x:Val):∀ {v0 v1 v2 v3 v4:Value},PRep prot w (.sc (.int .i64 x.kind)) v0→PRep prot w (.sc (.int .i64 x.num)) v1→PRep prot w (.sc (.string x.str)) v2→PRep prot w (.sl false x.items.length (q2f x.items)) v3→PRep prot w (.sl false x.keys.length (x.keys.map strP)) v4→q1l w (.agg #[v0,v1,v2,v3,v4]) x:=by
 induction x using Val.ind with
 | h k n s items keys ih =>
  intro v0 v1 v2 v3 v4 h0 h1 h2 h3 h4
  simp only[kind_mk,qls,qnm,qk0,qk9]at h0 h1 h2 h3 h4
  unfold PRep at h0 h1 h2
  obtain ⟨rfl,_⟩:=h0
  obtain ⟨rfl,_⟩:=h1
  obtain ⟨rfl,_⟩:=h2
  unfold q1l
  refine ⟨v3,v4,rfl,qrz h4,?_⟩
  unfold PRep at h3
  rcases h3 with ⟨h1,h2,_⟩ | ⟨b,off,cap,h1,h2,h5,h3⟩ | ⟨h2,_,a,cap,h1,_⟩
  ·obtain rfl:items=[]:=List.eq_nil_of_length_eq_zero h2
   exact ⟨none,0,by simpa using h1,by simp,.inl rfl⟩
  rotate_left
  ·obtain rfl:items=[]:=List.eq_nil_of_length_eq_zero h2
   exact ⟨some a,cap,by simpa using h1,by simp,.inl rfl⟩
  ·refine ⟨_,cap,h1,h2,.inr ⟨b,off,rfl,?_⟩⟩
   clear h1 h2 h4 h5
   induction items generalizing off with
   | nil=>unfold q2h; trivial
   | cons x r ihr =>
    rw[qj4]at h3
    simp only[qh]at h3
    obtain ⟨⟨u0,a0,_,b0⟩,⟨u1,a1,_,b1⟩,⟨u2,a2,_,b2⟩,⟨u3,a3,_,b3⟩,⟨u4,a4,_,b4⟩,h3⟩:=h3
    unfold q2h
    exact ⟨⟨u0,u1,u2,u3,u4,a0,a1,a2,a3,a4,ih x (by simp) b0 b1 b2 b3 b4⟩,ihr (fun y hy=>ih y (by simp[hy])) _ h3⟩
theorem qee {X:Cx} {w:World} {x:Val} {u:Value} (h:q9 X w (valA x) u):q1l w u x:=by
 unfold valA at h
 obtain ⟨us,rfl,h⟩:=h
 obtain ⟨l⟩:=us
 match l,h with
 | [v0,v1,v2,v3,v4],⟨h0,h1,h2,h3,h4,_⟩=>exact qs0 x h0 h1 h2 h3 h4
theorem Pure.of (hb:Base E E0 G) {P:Program} {f:FuncId} {args:List AV} {r:TV}
  (h:∀ (X:Cx) (w:World) (vs:List Value),E w→All2 (q9 X w) args vs→Calls P f vs.toArray w fun e w'=>∃ v,e=.returned v∧Below w.heap.size w w'∧∀ (X':Cx),TRep X' w' r v):Pure E E0 P f args r:=by
 intro old w vs hE h0 _ hv
 refine (h _ w vs hE hv).mono ?_
 rintro e w' ⟨v,rfl,hB,hr⟩
 exact ⟨v,rfl,hB,hb.step _ _ hE (hB.mono h0),hr _⟩
theorem q6a {X:Cx} {w:World} {n:Int} {u:Value} (h:q9 X w (intA n) u):u=.int .i64 n:=by
 unfold intA at h
 simp only[q9,CRep,PRep]at h
 exact h.1
theorem q4g {X:Cx} {w:World} {s:ByteArray} {u:Value} (h:q9 X w (strA s) u):u=.string s:=by
 unfold strA at h
 simp only[q9,CRep,PRep]at h
 exact h.1
theorem q2k {X:Cx} {w:World} {n:Int}:q9 X w (intA n) (.int .i64 n):=by unfold intA; simp only[q9,CRep,PRep]; exact ⟨trivial,rfl⟩
theorem q53 {X:Cx} {w:World} {s:ByteArray}:q9 X w (strA s) (.string s):=by unfold strA; simp only[q9,CRep,PRep]; exact ⟨trivial,rfl⟩
theorem qmr {X:Cx} {w:World} {b:Bool}:q9 X w (qdc b) (.bool b):=by unfold qdc; simp only[q9,CRep,PRep]; exact ⟨trivial,rfl⟩
theorem q4c {X:Cx} {w:World} {v:AV} {u:Value} (h:q9 X w v u):TRep X w (.one v) u:=h
variable (hb : Base E E0 G) (he : ∀ w, E w → EnvV w)
include hb in
include hb in
theorem qv7 (x:Val) (hf:x.Fits):Pure E E0 Tryz.prog 21 [valA x] (.one (intA (q1y x))) :=
 Pure.of hb fun X w vs hE hv=>match vs,hv with
  | [u],⟨h1,_⟩=>(qv6 x w u (qee h1) hf).mono fun e w' ⟨k1,k2⟩=>⟨_,k1,k2,fun X'=>q4c q2k⟩
include hb he in
theorem qul (x:Val) (hf:x.Fits):Pure E E0 Tryz.prog 26 [valA x] (.one (intA (q1y x))) :=
 Pure.of hb fun X w vs hE hv=>match vs,hv with
  | [u],⟨h1,_⟩=>(quj x w u (qee h1) hf (he w hE)).mono fun e w' ⟨k1,k2⟩=>⟨_,k1,k2,fun X'=>q4c q2k⟩
include hb he in
theorem qus (s:ByteArray) (hs:s.size≤281474976710656):Pure E E0 Tryz.prog 98 [strA s] (.tup [intA (NumPlain.parseB s).1,intA (NumPlain.parseB s).2]) :=
 Pure.of hb fun X w vs hE hv=>match vs,hv with
  | [u],⟨h1,_⟩=>by
   rw[q4g h1]
   exact (qun s w hs (he w hE).1).mono fun e w' ⟨k1,k2⟩=>⟨_,k1,k2,fun X'=>⟨_,rfl,q2k,q2k,trivial⟩⟩
def fmtB (n:Int):ByteArray:=⟨(Lib.itoa n).toArray⟩
include hb he in
theorem qrg (n:Int) (h0:-9223372036854775808≤n) (h1:n≤9223372036854775807):Pure E E0 Tryz.prog 51 [intA n] (.one (strA (fmtB n))) :=
 Pure.of hb fun X w vs hE hv=>match vs,hv with
  | [u],⟨h2,_⟩=>by
   rw[q6a h2]
   exact (qre n w h0 h1 (he w hE).1).mono fun e w' ⟨k1,k2⟩=>⟨_,k1,k2,fun X'=>q4c q53⟩
end Abs
end Go.Proofs.YtpidpioifnnllaaGreatDoor
