/-
  Schema: Go functions as functions over plain values, with the proof that the code computes them; printed by gen.py.
-/
import Derived.Test.YtkffpfapfljinaaGreatDoorFnB
import Derived.Test.YtkffpfapfljinaaGreatDoorAbsN
namespace Go.Proofs.YtkffpfapfljinaaGreatDoor
namespace Abs
open Go.RowKit
variable {E : World → Prop} {E0 : Nat} {G : Nat → Option (List PV)}
set_option maxRecDepth 100000
set_option linter.unusedVariables false
set_option linter.unusedSimpArgs false
attribute [local irreducible] adv J KE KO mPut mSto mBool mFrm mDraw hedS unl Pure Ok sl loopO awpL awp asq asqD asqX asqF
noncomputable def gQ14 (s1 : Int) (z4 : Bool) : Option ((Int) ⊕ (Bool)) :=
 bif z4 then some (.inr (false)) else some (.inl (IntKind.i64.wrap (s1 + 1)))
noncomputable def gQ15 (s_ : SchemaG) (prior_ : Val) (y22 : Val) (s2 : Bool × Int) (z6 : Bool) : Option ((Bool × Int) ⊕ ((Int) ⊕ (Bool))) :=
 bif z6 then bif s2.1 then (idx s_.attrs s2.2).bind fun x25 => (gQ3c prior_ x25.name).bind fun y26 => (tQ8w y22 y26).bind fun y27 => some (.inl (y27, (IntKind.i64.wrap (s2.2 + 1)))) else some (.inl (false, (IntKind.i64.wrap (s2.2 + 1)))) else some (.inl (s2.1, (IntKind.i64.wrap (s2.2 + 1))))
noncomputable def gQ16  (z8 : Bool) : Option ((Bool × Int) ⊕ ((Bool × Int) ⊕ ((Int) ⊕ (Bool)))) :=
 bif z8 then some (.inr (.inr (.inr (false)))) else (gQ1g).bind fun y40 => some (.inr (.inr (.inr (y40))))
noncomputable def gQ1a (s_ : SchemaG) (prior_ : Val) (y3 : Val × DiagG) (y6 : Val) (s3 : Bool × Int) : Option ((Bool × Int) ⊕ ((Bool × Int) ⊕ ((Int) ⊕ (Bool)))) :=
 bif (decide (s3.2 < (s_.nested.length : Int))) then bif s3.1 then (idx s_.nested s3.2).bind fun x34 => (gQ3c y3.1 x34.name).bind fun y35 => (idx s_.nested s3.2).bind fun x36 => (gQ3c prior_ x36.name).bind fun y37 => (tQ8w y35 y37).bind fun y38 => some (.inl (y38, (IntKind.i64.wrap (s3.2 + 1)))) else some (.inl (false, (IntKind.i64.wrap (s3.2 + 1)))) else bif s3.1 then (tQ8w y6 prior_).bind fun y42 => bif (!y42) then gQ16 true else (gQ3t s_ prior_ y6).bind fun y44 => gQ16 (!decide ((y44.length : Int) = 0)) else gQ16 false
noncomputable def gQ19 (s_ : SchemaG) (prior_ : Val) (y3 : Val × DiagG) (y6 : Val) (s2 : Bool × Int) : Option ((Bool × Int) ⊕ ((Int) ⊕ (Bool))) :=
 bif (decide (s2.2 < (s_.attrs.length : Int))) then (idx s_.attrs s2.2).bind fun x21 => (gQ3c y3.1 x21.name).bind fun y22 => (idx s_.attrs s2.2).bind fun x28 => bif (!decide (x28.mode = 3)) then (idx s_.attrs s2.2).bind fun x30 => bif (!decide (x30.mode = 4)) then (gQ15 s_ prior_ y22 s2) true else (gQ15 s_ prior_ y22 s2) (!decide (y22.kind = 0)) else (gQ15 s_ prior_ y22 s2) false else loopO (gQ1a s_ prior_ y3 y6) (s2.1, 0)
noncomputable def gQ12 (s2b : Int) (z10 : Bool) : Option ((Int) ⊕ ((Int) ⊕ (Bool))) :=
 bif z10 then some (.inl (IntKind.i64.wrap (s2b + 1))) else some (.inl (IntKind.i64.wrap (s2b + 1)))
noncomputable def gQ17 (s_ : SchemaG) (s3b : Int) : Option ((Int) ⊕ ((Int) ⊕ ((Int) ⊕ (Bool)))) :=
 bif (decide (s3b < (s_.nested.length : Int))) then some (.inl (IntKind.i64.wrap (s3b + 1))) else (gQ1g).bind fun y54 => some (.inr (.inr (.inr (y54))))
noncomputable def gQ1b (s_ : SchemaG) (y3 : Val × DiagG) (s2b : Int) : Option ((Int) ⊕ ((Int) ⊕ (Bool))) :=
 bif (decide (s2b < (s_.attrs.length : Int))) then (idx s_.attrs s2b).bind fun x46 => (gQ3c y3.1 x46.name).bind fun y47 => (idx s_.attrs s2b).bind fun x49 => bif (!decide (x49.mode = 3)) then (idx s_.attrs s2b).bind fun x51 => bif (!decide (x51.mode = 4)) then (gQ12 s2b) true else (gQ12 s2b) (!decide (y47.kind = 0)) else (gQ12 s2b) false else loopO (gQ17 s_) 0
noncomputable def gQ18 (s_ : SchemaG) (prior_ : Val) (y3 : Val × DiagG) (y6 : Val) (s1 : Int) : Option ((Int) ⊕ (Bool)) :=
 bif (decide (s1 < (s_.attrs.length : Int))) then (idx s_.attrs s1).bind fun x10 => bif (decide (x10.mode = 3)) then bif (!x10.volatile) then bif (!decide (prior_.kind = 0)) then (gQ3c y6 x10.name).bind fun y15 => (gQ3c prior_ x10.name).bind fun y16 => (tQ85 y15 y16).bind fun y17 => (gQ14 s1) (!y17) else (gQ14 s1) false else (gQ14 s1) false else (gQ14 s1) false else bif (!decide (prior_.kind = 0)) then (tQ8z prior_).bind fun y19 => loopO (gQ19 s_ prior_ y3 y6) (y19, 0) else loopO (gQ1b s_ y3) 0
noncomputable def gQ13 (s_ : SchemaG) (prior_ : Val) (final_ : Val) (y3 : Val × DiagG) (y6 : Val) (z2 : Bool) : Option (Bool) :=
 (gQ3r s_ y6 final_).bind fun y7 => bif (!(y7 == z2)) then some (false) else loopO (gQ18 s_ prior_ y3 y6) 0
noncomputable def gQ11 (s_ : SchemaG) (prior_ : Val) (v_ : Val) (final_ : Val) (z1 : Bool) : Option (Bool) :=
 bif z1 then (gQ1g).bind fun y2 => some (y2) else (gQ3z s_ v_).bind fun y3 => bif (!decide (y3.2.kind = 0)) then (gQ1g).bind fun y5 => some (y5) else (gQ46 s_ prior_ y3.1).bind fun y6 => (m_checkE final_).bind fun y55 => bif (decide (y55 = 0)) then (tQ8z final_).bind fun y57 => bif y57 then (gQ4d s_).bind fun y59 => (tQ8q final_ y59).bind fun y60 => bif y60 then (tQ92 final_ y6).bind fun y62 => (gQ13 s_ prior_ final_ y3 y6) y62 else (gQ13 s_ prior_ final_ y3 y6) false else (gQ13 s_ prior_ final_ y3 y6) false else (gQ13 s_ prior_ final_ y3 y6) false
noncomputable def gQ10  (s_ : SchemaG) (prior_ : Val) (v_ : Val) (final_ : Val) : Option (Bool) :=
 (gQ20 s_).bind fun y63 => bif (!y63) then (gQ11 s_ prior_ v_ final_) true else (gQ1r prior_).bind fun y65 => bif (!y65) then (gQ11 s_ prior_ v_ final_) true else (gQ1r v_).bind fun y67 => bif (!y67) then (gQ11 s_ prior_ v_ final_) true else (m_small final_ 150).bind fun y69 => bif (!y69) then (gQ11 s_ prior_ v_ final_) true else bif (!decide (prior_.kind = 0)) then (gQ1o s_ prior_).bind fun y72 => (gQ11 s_ prior_ v_ final_) (!y72) else (gQ11 s_ prior_ v_ final_) false
theorem gQ1c (hb : Base E E0 G) (he : ∀ w, E w → EnvV w)   (s_ : SchemaG) (prior_ : Val) (v_ : Val) (final_ : Val) : ∀ r_ : Bool, gQ10 s_ prior_ v_ final_ = some r_ →
 Pure E E0 Tryz.prog 7 [.agg [vL flAttrG s_.attrs, vL flNestedG s_.nested], .agg (aV prior_), .agg (aV v_), .agg (aV final_)] (c1 (vB r_)) := by
 refine fnE hb Tryz.func7 rfl fun r_ hq => ?_
 refine joinE hb (gQ11 s_ prior_ v_ final_) (fun z1 => ⟨none, [pick (bodyOf Tryz.f7) [1, 0, 1], pick (bodyOf Tryz.f7) [1, 1]], [], sl 223 [(4, pt 0), (5, pt 1), (6, pt 2), (7, pt 3), (47, c1 (vB z1))], [bx [vL flAttrG s_.attrs, vL flNestedG s_.nested], bx (aV prior_), bx (aV v_), bx (aV final_)]⟩) (x := r_) (fun z1 hq => ?_) (fun KJ1 => ?_)
 refine ifE hb 0 [47] [] hq (fun hq _ => ?_) (fun hq _ => ?_)
 refine callE hb 3 hq (gQ1i hb he ) fun y2 hy2 hq => ?_
 exact retE hb 2 (injO hq).symm
 refine callE hb 6 hq (gQ42 hb he s_ v_) fun y3 hy3 hq => ?_
 refine ifE hb 15 [57] [] hq (fun hq _ => ?_) (fun hq _ => ?_)
 refine callE hb 3 hq (gQ1i hb he ) fun y5 hy5 hq => ?_
 exact retE hb 2 (injO hq).symm
 refine callE hb 7 hq (gQ49 hb he s_ prior_ y3.1) fun y6 hy6 hq => ?_
 refine joinE hb (gQ13 s_ prior_ final_ y3 y6) (fun z2 => ⟨none, [pick (bodyOf Tryz.f7) [1, 1, 1, 1, 1, 1]], [], sl 223 [(4, pt 0), (5, pt 1), (7, pt 3), (9, pt 4), (11, pt 6), (12, c1 (vB z2))], [bx [vL flAttrG s_.attrs, vL flNestedG s_.nested], bx (aV prior_), bx (aV v_), bx (aV final_), bx (aV y3.1), bx [vi y3.2.kind, vi y3.2.at_, vS y3.2.name], bx (aV y6)]⟩) (x := r_) (fun z2 hq => ?_) (fun KJ2 => ?_)
 refine callE hb 6 hq (gQ3s hb he s_ y6 final_) fun y7 hy7 hq => ?_
 refine ifE hb 3 [86] [] hq (fun hq _ => ?_) (fun hq _ => ?_)
 exact retE hb 5 (injO hq).symm
 refine cpE hb 8 [4, 5, 9, 11, 13] (s' := ⟨none, [pick (bodyOf Tryz.f7) [1, 1, 1, 1, 1, 1, 1, 0, 1, 0]], [(0, [pick (bodyOf Tryz.f7) [1, 1, 1, 1, 1, 1, 1, 1]])], sl 223 [(4, pt 0), (5, pt 1), (9, pt 4), (11, pt 6), (13, c1 (vi 0))], [bx [vL flAttrG s_.attrs, vL flNestedG s_.nested], bx (aV prior_), bx (aV v_), bx (aV final_), bx (aV y3.1), bx [vi y3.2.kind, vi y3.2.at_, vS y3.2.name], bx (aV y6)]⟩) ?_
 refine loopE hb 0 (gQ18 s_ prior_ y3 y6) (fun s1 => sl 223 [(4, pt 0), (5, pt 1), (9, pt 4), (11, pt 6), (13, c1 (vi s1))]) (fun s1 => [bx [vL flAttrG s_.attrs, vL flNestedG s_.nested], bx (aV prior_), none, none, bx (aV y3.1), none, bx (aV y6)]) [4, 5, 9, 11, 13] [2, 3, 5] 7 (s0 := 0) ⟨(by kernel_rfl), (by kernel_rfl), rfl, rfl, (by kernel_rfl), rfl, (by kernel_rfl), trivial⟩ hq (fun s1 x1 hq hn1 he1 => ?_)
 refine ifE hb 9 [91] [] hq (fun hq _ => ?_) (fun hq _ => ?_)
 refine idxE hb flAttrG 9 hq fun x10 hx10 hq => ?_
 refine joinE hb (gQ14 s1) (fun z4 => ⟨none, [pick (bodyOf Tryz.f7) [1, 1, 1, 1, 1, 1, 1, 0, 1, 0, 0, 1, 0, 0, 1, 1]], [(1, [pick (bodyOf Tryz.f7) [1, 1, 1, 1, 1, 1, 1, 0, 1, 0, 0, 1, 1], pick (bodyOf Tryz.f7) [1, 1, 1, 1, 1, 1, 1, 0, 1, 0]]), (0, [pick (bodyOf Tryz.f7) [1, 1, 1, 1, 1, 1, 1, 1]])], sl 223 [(4, pt 0), (5, pt 1), (9, pt 4), (11, pt 6), (13, c1 (vi s1)), (123, c1 (vB z4))], [bx [vL flAttrG s_.attrs, vL flNestedG s_.nested], bx (aV prior_), none, none, bx (aV y3.1), none, bx (aV y6), bx [vS x10.name, vi x10.type_.kind, vL flT x10.type_.elems, vL flS x10.type_.names, vi x10.mode, vB x10.replace, vB x10.sensitive, vB x10.volatile]]⟩) (x := x1) (fun z4 hq => ?_) (fun KJ4 => ?_)
 refine ifE hb 0 [123] [] hq (fun hq _ => ?_) (fun hq _ => ?_)
 exact retE hb 5 (he1 _ (injO hq))
 exact backE hb 8 [4, 5, 9, 11, 13] [] 7 (hn1 _ (injO hq)) ⟨(by kernel_rfl), (by kernel_rfl), rfl, rfl, (by kernel_rfl), rfl, (by kernel_rfl), trivial⟩
 refine drawE hb mixed 5 21 [] ?_
 refine ifE hb 4 [101, 102] [] hq (fun hq _ => ?_) (fun hq _ => ?_)
 refine ifE hb 5 [105, 106, 107] [] hq (fun hq _ => ?_) (fun hq _ => ?_)
 refine ifE hb 5 [110, 111, 112] [] hq (fun hq _ => ?_) (fun hq _ => ?_)
 refine callE hb 3 hq (gQ3d hb he y6 x10.name) fun y15 hy15 hq => ?_
 refine callE hb 4 hq (gQ3d hb he prior_ x10.name) fun y16 hy16 hq => ?_
 refine callE hb 0 hq (tQ86 hb he y15 y16) fun y17 hy17 hq => ?_
 exact cpE hb 3 [4, 5, 9, 11, 13, 123] (KJ4 (!y17) hq)
 exact cpE hb 13 [4, 5, 9, 11, 13, 123] (KJ4 false hq)
 exact cpE hb 18 [4, 5, 9, 11, 13, 123] (KJ4 false hq)
 exact cpE hb 23 [4, 5, 9, 11, 13, 123] (KJ4 false hq)
 refine ifE hb 8 [126, 127] [] hq (fun hq _ => ?_) (fun hq _ => ?_)
 refine callE hb 1 hq (tQ90 hb he prior_) fun y19 hy19 hq => ?_
 refine cpE hb 9 [4, 5, 9, 11, 15, 16] (s' := ⟨none, [pick (bodyOf Tryz.f7) [1, 1, 1, 1, 1, 1, 1, 1, 1, 0, 1, 0]], [(2, [pick (bodyOf Tryz.f7) [1, 1, 1, 1, 1, 1, 1, 1, 1, 1]])], sl 223 [(4, pt 0), (5, pt 1), (9, pt 4), (11, pt 6), (15, c1 (vB y19)), (16, c1 (vi 0))], [bx [vL flAttrG s_.attrs, vL flNestedG s_.nested], bx (aV prior_), none, none, bx (aV y3.1), none, bx (aV y6)]⟩) ?_
 refine loopE hb 0 (gQ19 s_ prior_ y3 y6) (fun s2 => sl 223 [(4, pt 0), (5, pt 1), (9, pt 4), (11, pt 6), (15, c1 (vB s2.1)), (16, c1 (vi s2.2))]) (fun s2 => [bx [vL flAttrG s_.attrs, vL flNestedG s_.nested], bx (aV prior_), none, none, bx (aV y3.1), none, bx (aV y6)]) [4, 5, 9, 11, 15, 16] [] 7 (s0 := (y19, 0)) ⟨(by kernel_rfl), (by kernel_rfl), rfl, rfl, (by kernel_rfl), rfl, (by kernel_rfl), trivial⟩ hq (fun s2 x2 hq hn2 he2 => ?_)
 refine ifE hb 9 [135] [] hq (fun hq _ => ?_) (fun hq _ => ?_)
 refine drawE hb mixed 5 9 [] ?_
 refine idxE hb flAttrG 4 hq fun x21 hx21 hq => ?_
 refine callE hb 2 hq (gQ3d hb he y3.1 x21.name) fun y22 hy22 hq => ?_
 refine joinE hb (gQ15 s_ prior_ y22 s2) (fun z6 => ⟨none, [pick (bodyOf Tryz.f7) [1, 1, 1, 1, 1, 1, 1, 1, 1, 0, 1, 0, 0, 1, 0, 0, 1, 1]], [(3, [pick (bodyOf Tryz.f7) [1, 1, 1, 1, 1, 1, 1, 1, 1, 0, 1, 0, 0, 1, 1], pick (bodyOf Tryz.f7) [1, 1, 1, 1, 1, 1, 1, 1, 1, 0, 1, 0]]), (2, [pick (bodyOf Tryz.f7) [1, 1, 1, 1, 1, 1, 1, 1, 1, 1]])], sl 223 [(4, pt 0), (5, pt 1), (9, pt 4), (11, pt 6), (15, c1 (vB s2.1)), (16, c1 (vi s2.2)), (17, pt 7), (166, c1 (vB z6))], [bx [vL flAttrG s_.attrs, vL flNestedG s_.nested], bx (aV prior_), none, none, bx (aV y3.1), none, bx (aV y6), bx (aV y22)]⟩) (x := x2) (fun z6 hq => ?_) (fun KJ6 => ?_)
 refine ifE hb 0 [166] [] hq (fun hq _ => ?_) (fun hq _ => ?_)
 refine drawE hb mixed 1 11 [] ?_
 refine ifE hb 2 [15, 167, 168] [] hq (fun hq _ => ?_) (fun hq _ => ?_)
 refine idxE hb flAttrG 5 hq fun x25 hx25 hq => ?_
 refine callE hb 2 hq (gQ3d hb he prior_ x25.name) fun y26 hy26 hq => ?_
 refine callE hb 1 hq (tQ8x hb he y22 y26) fun y27 hy27 hq => ?_
 exact backE hb 9 [4, 5, 9, 11, 15, 16] [] 7 (hn2 _ (injO hq)) ⟨(by kernel_rfl), (by kernel_rfl), rfl, rfl, (by kernel_rfl), rfl, (by kernel_rfl), trivial⟩
 exact backE hb 20 [4, 5, 9, 11, 15, 16] [] 7 (hn2 _ (injO hq)) ⟨(by kernel_rfl), (by kernel_rfl), rfl, rfl, (by kernel_rfl), rfl, (by kernel_rfl), trivial⟩
 exact backE hb 8 [4, 5, 9, 11, 15, 16] [] 7 (hn2 _ (injO hq)) ⟨(by kernel_rfl), (by kernel_rfl), rfl, rfl, (by kernel_rfl), rfl, (by kernel_rfl), trivial⟩
 refine idxE hb flAttrG 9 hq fun x28 hx28 hq => ?_
 refine ifE hb 4 [152, 153] [] hq (fun hq _ => ?_) (fun hq _ => ?_)
 refine idxE hb flAttrG 3 hq fun x30 hx30 hq => ?_
 refine ifE hb 4 [160, 161] [] hq (fun hq _ => ?_) (fun hq _ => ?_)
 exact cpE hb 6 [4, 5, 9, 11, 15, 16, 17, 166] (KJ6 true hq)
 exact cpE hb 6 [4, 5, 9, 11, 15, 16, 17, 166] (KJ6 (!decide (y22.kind = 0)) hq)
 exact cpE hb 14 [4, 5, 9, 11, 15, 16, 17, 166] (KJ6 false hq)
 refine loopE hb 8 (gQ1a s_ prior_ y3 y6) (fun s3 => sl 223 [(4, pt 0), (5, pt 1), (9, pt 4), (11, pt 6), (15, c1 (vB s3.1)), (18, c1 (vi s3.2))]) (fun s3 => [bx [vL flAttrG s_.attrs, vL flNestedG s_.nested], bx (aV prior_), none, none, bx (aV y3.1), none, bx (aV y6)]) [4, 5, 9, 11, 15, 18] [] 7 (s0 := (s2.1, 0)) ⟨(by kernel_rfl), (by kernel_rfl), rfl, rfl, (by kernel_rfl), rfl, (by kernel_rfl), trivial⟩ hq (fun s3 x3 hq hn3 he3 => ?_)
 refine ifE hb 9 [184] [] hq (fun hq _ => ?_) (fun hq _ => ?_)
 refine drawE hb mixed 4 17 [] ?_
 refine ifE hb 2 [15, 187, 188] [] hq (fun hq _ => ?_) (fun hq _ => ?_)
 refine idxE hb flNestedG 4 hq fun x34 hx34 hq => ?_
 refine callE hb 2 hq (gQ3d hb he y3.1 x34.name) fun y35 hy35 hq => ?_
 refine idxE hb flNestedG 4 hq fun x36 hx36 hq => ?_
 refine callE hb 3 hq (gQ3d hb he prior_ x36.name) fun y37 hy37 hq => ?_
 refine callE hb 0 hq (tQ8x hb he y35 y37) fun y38 hy38 hq => ?_
 refine cpE hb 4 [4, 5, 9, 11, 15, 18] (s' := ⟨none, [pick (bodyOf Tryz.f7) [1, 1, 1, 1, 1, 1, 1, 1, 1, 1, 0, 1, 0, 0, 1, 1], pick (bodyOf Tryz.f7) [1, 1, 1, 1, 1, 1, 1, 1, 1, 1, 0, 1, 0]], [(4, [pick (bodyOf Tryz.f7) [1, 1, 1, 1, 1, 1, 1, 1, 1, 1, 1]])], sl 223 [(4, pt 0), (5, pt 1), (9, pt 4), (11, pt 6), (15, c1 (vB y38)), (18, c1 (vi s3.2))], [bx [vL flAttrG s_.attrs, vL flNestedG s_.nested], bx (aV prior_), none, none, bx (aV y3.1), none, bx (aV y6)]⟩) ?_
 exact backE hb 5 [4, 5, 9, 11, 15, 18] [] 7 (hn3 _ (injO hq)) ⟨(by kernel_rfl), (by kernel_rfl), rfl, rfl, (by kernel_rfl), rfl, (by kernel_rfl), trivial⟩
 exact backE hb 27 [4, 5, 9, 11, 15, 18] [] 7 (hn3 _ (injO hq)) ⟨(by kernel_rfl), (by kernel_rfl), rfl, rfl, (by kernel_rfl), rfl, (by kernel_rfl), trivial⟩
 refine joinE hb gQ16 (fun z8 => ⟨none, [pick (bodyOf Tryz.f7) [1, 1, 1, 1, 1, 1, 1, 1, 1, 1, 1, 0, 1], pick (bodyOf Tryz.f7) [1, 1, 1, 1, 1, 1, 1, 1, 1, 1, 1, 1]], [], sl 223 [(221, c1 (vB z8))], [bx [vL flAttrG s_.attrs, vL flNestedG s_.nested], bx (aV prior_), none, none, bx (aV y3.1), none, bx (aV y6)]⟩) (x := x3) (fun z8 hq => ?_) (fun KJ8 => ?_)
 refine ifE hb 0 [221] [] hq (fun hq _ => ?_) (fun hq _ => ?_)
 exact retE hb 5 (he1 _ ((he2 _ ((he3 _ (injO hq)).symm)).symm))
 refine callE hb 4 hq (gQ1i hb he ) fun y40 hy40 hq => ?_
 exact retE hb 2 (he1 _ ((he2 _ ((he3 _ (injO hq)).symm)).symm))
 refine ifE hb 7 [15, 207, 208] [] hq (fun hq _ => ?_) (fun hq _ => ?_)
 refine callE hb 2 hq (tQ8x hb he y6 prior_) fun y42 hy42 hq => ?_
 refine ifE hb 2 [212, 213] [] hq (fun hq _ => ?_) (fun hq _ => ?_)
 exact cpE hb 9 [221] (KJ8 true hq)
 refine callE hb 3 hq (gQ3v hb he s_ prior_ y6) fun y44 hy44 hq => ?_
 exact cpE hb 5 [221] (KJ8 (!decide ((y44.length : Int) = 0)) hq)
 exact cpE hb 14 [221] (KJ8 false hq)
 refine cpE hb 11 [4, 5, 9, 11, 15, 16] (s' := ⟨none, [pick (bodyOf Tryz.f7) [1, 1, 1, 1, 1, 1, 1, 1, 1, 0, 1, 0]], [(2, [pick (bodyOf Tryz.f7) [1, 1, 1, 1, 1, 1, 1, 1, 1, 1]])], sl 223 [(4, pt 0), (5, pt 1), (9, pt 4), (11, pt 6), (15, c1 (vB false)), (16, c1 (vi 0))], [bx [vL flAttrG s_.attrs, vL flNestedG s_.nested], bx (aV prior_), none, none, bx (aV y3.1), none, bx (aV y6)]⟩) ?_
 refine loopE hb 0 (gQ1b s_ y3) (fun s2b => sl 223 [(4, pt 0), (5, pt 1), (9, pt 4), (11, pt 6), (15, c1 (vB false)), (16, c1 (vi s2b))]) (fun s2b => [bx [vL flAttrG s_.attrs, vL flNestedG s_.nested], bx (aV prior_), none, none, bx (aV y3.1), none, bx (aV y6)]) [4, 5, 9, 11, 15, 16] [] 7 (s0 := 0) ⟨(by kernel_rfl), (by kernel_rfl), rfl, rfl, (by kernel_rfl), rfl, (by kernel_rfl), trivial⟩ hq (fun s2b x2 hq hn2 he2 => ?_)
 refine ifE hb 9 [135] [] hq (fun hq _ => ?_) (fun hq _ => ?_)
 refine drawE hb mixed 5 9 [] ?_
 refine idxE hb flAttrG 4 hq fun x46 hx46 hq => ?_
 refine callE hb 2 hq (gQ3d hb he y3.1 x46.name) fun y47 hy47 hq => ?_
 refine joinE hb (gQ12 s2b) (fun z10 => ⟨none, [pick (bodyOf Tryz.f7) [1, 1, 1, 1, 1, 1, 1, 1, 1, 0, 1, 0, 0, 1, 0, 0, 1, 1]], [(3, [pick (bodyOf Tryz.f7) [1, 1, 1, 1, 1, 1, 1, 1, 1, 0, 1, 0, 0, 1, 1], pick (bodyOf Tryz.f7) [1, 1, 1, 1, 1, 1, 1, 1, 1, 0, 1, 0]]), (2, [pick (bodyOf Tryz.f7) [1, 1, 1, 1, 1, 1, 1, 1, 1, 1]])], sl 223 [(4, pt 0), (5, pt 1), (9, pt 4), (11, pt 6), (15, c1 (vB false)), (16, c1 (vi s2b)), (17, pt 7), (166, c1 (vB z10))], [bx [vL flAttrG s_.attrs, vL flNestedG s_.nested], bx (aV prior_), none, none, bx (aV y3.1), none, bx (aV y6), bx (aV y47)]⟩) (x := x2) (fun z10 hq => ?_) (fun KJ10 => ?_)
 refine ifE hb 0 [166] [] hq (fun hq _ => ?_) (fun hq _ => ?_)
 refine drawE hb mixed 1 11 [] ?_
 exact backE hb 22 [4, 5, 9, 11, 15, 16] [] 7 (hn2 _ (injO hq)) ⟨(by kernel_rfl), (by kernel_rfl), rfl, rfl, (by kernel_rfl), rfl, (by kernel_rfl), trivial⟩
 exact backE hb 8 [4, 5, 9, 11, 15, 16] [] 7 (hn2 _ (injO hq)) ⟨(by kernel_rfl), (by kernel_rfl), rfl, rfl, (by kernel_rfl), rfl, (by kernel_rfl), trivial⟩
 refine idxE hb flAttrG 9 hq fun x49 hx49 hq => ?_
 refine ifE hb 4 [152, 153] [] hq (fun hq _ => ?_) (fun hq _ => ?_)
 refine idxE hb flAttrG 3 hq fun x51 hx51 hq => ?_
 refine ifE hb 4 [160, 161] [] hq (fun hq _ => ?_) (fun hq _ => ?_)
 exact cpE hb 6 [4, 5, 9, 11, 15, 16, 17, 166] (KJ10 true hq)
 exact cpE hb 6 [4, 5, 9, 11, 15, 16, 17, 166] (KJ10 (!decide (y47.kind = 0)) hq)
 exact cpE hb 14 [4, 5, 9, 11, 15, 16, 17, 166] (KJ10 false hq)
 refine loopE hb 8 (gQ17 s_) (fun s3b => sl 223 [(4, pt 0), (5, pt 1), (9, pt 4), (11, pt 6), (15, c1 (vB false)), (18, c1 (vi s3b))]) (fun s3b => [bx [vL flAttrG s_.attrs, vL flNestedG s_.nested], bx (aV prior_), none, none, bx (aV y3.1), none, bx (aV y6)]) [4, 5, 9, 11, 15, 18] [] 7 (s0 := 0) ⟨(by kernel_rfl), (by kernel_rfl), rfl, rfl, (by kernel_rfl), rfl, (by kernel_rfl), trivial⟩ hq (fun s3b x3 hq hn3 he3 => ?_)
 refine ifE hb 9 [184] [] hq (fun hq _ => ?_) (fun hq _ => ?_)
 refine drawE hb mixed 4 17 [] ?_
 exact backE hb 29 [4, 5, 9, 11, 15, 18] [] 7 (hn3 _ (injO hq)) ⟨(by kernel_rfl), (by kernel_rfl), rfl, rfl, (by kernel_rfl), rfl, (by kernel_rfl), trivial⟩
 refine callE hb 25 hq (gQ1i hb he ) fun y54 hy54 hq => ?_
 exact retE hb 2 (he1 _ ((he2 _ ((he3 _ (injO hq)).symm)).symm))
 refine drawE hb mixed 4 16 [] ?_
 refine callE hb 1 hq (pCheck_g hb he final_) fun y55 hy55 hq => ?_
 refine ifE hb 2 [65, 66] [] hq (fun hq _ => ?_) (fun hq _ => ?_)
 refine callE hb 1 hq (tQ90 hb he final_) fun y57 hy57 hq => ?_
 refine ifE hb 2 [68, 69, 70] [] hq (fun hq _ => ?_) (fun hq _ => ?_)
 refine callE hb 2 hq (gQ4i hb he s_) fun y59 hy59 hq => ?_
 refine callE hb 0 hq (tQ8r hb he final_ y59) fun y60 hy60 hq => ?_
 refine ifE hb 2 [74, 75, 76] [] hq (fun hq _ => ?_) (fun hq _ => ?_)
 refine callE hb 3 hq (tQ93 hb he final_ y6) fun y62 hy62 hq => ?_
 exact cpE hb 3 [4, 5, 7, 9, 11, 12] (KJ2 y62 hq)
 exact cpE hb 7 [4, 5, 7, 9, 11, 12] (KJ2 false hq)
 exact cpE hb 13 [4, 5, 7, 9, 11, 12] (KJ2 false hq)
 exact cpE hb 17 [4, 5, 7, 9, 11, 12] (KJ2 false hq)
 refine callE hb 12 hq (gQ21 hb he s_) fun y63 hy63 hq => ?_
 refine ifE hb 2 [21, 22] [] hq (fun hq _ => ?_) (fun hq _ => ?_)
 exact cpE hb 26 [4, 5, 6, 7, 47] (KJ1 true hq)
 refine callE hb 1 hq (gQ1s hb he prior_) fun y65 hy65 hq => ?_
 refine ifE hb 3 [25, 26, 27] [] hq (fun hq _ => ?_) (fun hq _ => ?_)
 exact cpE hb 21 [4, 5, 6, 7, 47] (KJ1 true hq)
 refine callE hb 1 hq (gQ1s hb he v_) fun y67 hy67 hq => ?_
 refine ifE hb 3 [30, 31, 32] [] hq (fun hq _ => ?_) (fun hq _ => ?_)
 exact cpE hb 16 [4, 5, 6, 7, 47] (KJ1 true hq)
 refine callE hb 1 hq (rSmall_g hb he final_ 150) fun y69 hy69 hq => ?_
 refine ifE hb 3 [35, 36, 37] [] hq (fun hq _ => ?_) (fun hq _ => ?_)
 exact cpE hb 11 [4, 5, 6, 7, 47] (KJ1 true hq)
 refine ifE hb 4 [40, 41] [] hq (fun hq _ => ?_) (fun hq _ => ?_)
 refine callE hb 2 hq (gQ1q hb he s_ prior_) fun y72 hy72 hq => ?_
 exact cpE hb 4 [4, 5, 6, 7, 47] (KJ1 (!y72) hq)
 exact cpE hb 7 [4, 5, 6, 7, 47] (KJ1 false hq)
noncomputable def gQ0s (y3 : List ByteArray) (y4 : List ByteArray) (s1 : Int × Int) : Option ((Int × Int) ⊕ (Bool)) :=
 bif (decide (s1.1 < (y3.length : Int))) then bif (decide (s1.1 > 0)) then (idx y3 s1.1).bind fun x13 => (idx y3 (IntKind.i64.wrap (s1.1 - 1))).bind fun x14 => bif (Op.bytesLess x13.toList x14.toList || decide (x13 = x14)) then some (.inr (false)) else bif (decide (s1.2 < (y4.length : Int))) then (idx y4 s1.2).bind fun x17 => (idx y3 s1.1).bind fun x18 => bif (decide (x17 = x18)) then some (.inl ((IntKind.i64.wrap (s1.1 + 1)), (IntKind.i64.wrap (s1.2 + 1)))) else some (.inl ((IntKind.i64.wrap (s1.1 + 1)), s1.2)) else some (.inl ((IntKind.i64.wrap (s1.1 + 1)), s1.2)) else bif (decide (s1.2 < (y4.length : Int))) then (idx y4 s1.2).bind fun x21 => (idx y3 s1.1).bind fun x22 => bif (decide (x21 = x22)) then some (.inl ((IntKind.i64.wrap (s1.1 + 1)), (IntKind.i64.wrap (s1.2 + 1)))) else some (.inl ((IntKind.i64.wrap (s1.1 + 1)), s1.2)) else some (.inl ((IntKind.i64.wrap (s1.1 + 1)), s1.2)) else bif (decide (s1.2 = (y4.length : Int))) then (gQ1g).bind fun y25 => some (.inr (y25)) else some (.inr (false))
noncomputable def gQ0r (s_ : SchemaG) (a_ : Val) (b_ : Val) (z1 : Bool) : Option (Bool) :=
 bif z1 then (gQ1g).bind fun y2 => some (y2) else (gQ3t s_ a_ b_).bind fun y3 => (gQ4a s_ a_ b_).bind fun y4 => (gQ3t s_ b_ a_).bind fun y5 => (gQ1v y3 y5).bind fun y6 => bif (!y6) then some (false) else (gQ4a s_ b_ a_).bind fun y8 => (gQ1v y4 y8).bind fun y9 => bif (!y9) then some (false) else loopO (gQ0s y3 y4) (0, 0)
noncomputable def gQ0q  (s_ : SchemaG) (a_ : Val) (b_ : Val) : Option (Bool) :=
 (gQ20 s_).bind fun y26 => bif (!y26) then (gQ0r s_ a_ b_) true else (gQ1r a_).bind fun y28 => bif (!y28) then (gQ0r s_ a_ b_) true else (gQ1r b_).bind fun y30 => bif (!y30) then (gQ0r s_ a_ b_) true else bif (!decide (a_.kind = 0)) then bif (!decide (a_.kind = 5)) then (gQ0r s_ a_ b_) true else bif (!decide (b_.kind = 0)) then (gQ0r s_ a_ b_) (!decide (b_.kind = 5)) else (gQ0r s_ a_ b_) false else bif (!decide (b_.kind = 0)) then (gQ0r s_ a_ b_) (!decide (b_.kind = 5)) else (gQ0r s_ a_ b_) false
theorem gQ0t (hb : Base E E0 G) (he : ∀ w, E w → EnvV w)   (s_ : SchemaG) (a_ : Val) (b_ : Val) : ∀ r_ : Bool, gQ0q s_ a_ b_ = some r_ →
 Pure E E0 Tryz.prog 8 [.agg [vL flAttrG s_.attrs, vL flNestedG s_.nested], .agg (aV a_), .agg (aV b_)] (c1 (vB r_)) := by
 refine fnE hb Tryz.func8 rfl fun r_ hq => ?_
 refine joinE hb (gQ0r s_ a_ b_) (fun z1 => ⟨none, [pick (bodyOf Tryz.f8) [1, 0, 1], pick (bodyOf Tryz.f8) [1, 1]], [], sl 113 [(3, pt 0), (4, pt 1), (5, pt 2), (43, c1 (vB z1))], [bx [vL flAttrG s_.attrs, vL flNestedG s_.nested], bx (aV a_), bx (aV b_)]⟩) (x := r_) (fun z1 hq => ?_) (fun KJ1 => ?_)
 refine ifE hb 0 [43] [] hq (fun hq _ => ?_) (fun hq _ => ?_)
 refine callE hb 3 hq (gQ1i hb he ) fun y2 hy2 hq => ?_
 exact retE hb 2 (injO hq).symm
 refine drawE hb mixed 3 7 [] ?_
 refine callE hb 3 hq (gQ3v hb he s_ a_ b_) fun y3 hy3 hq => ?_
 refine callE hb 4 hq (gQ4c hb he s_ a_ b_) fun y4 hy4 hq => ?_
 refine callE hb 10 hq (gQ3v hb he s_ b_ a_) fun y5 hy5 hq => ?_
 refine callE hb 0 hq (gQ1x hb he y3 y5) fun y6 hy6 hq => ?_
 refine ifE hb 2 [59, 60] [] hq (fun hq _ => ?_) (fun hq _ => ?_)
 refine cpE hb 9 [7, 8, 68] (s' := ⟨none, [pick (bodyOf Tryz.f8) [1, 1, 1, 0, 1], pick (bodyOf Tryz.f8) [1, 1, 1, 1]], [], sl 113 [(7, c1 (vL flS y3)), (8, c1 (vL flS y4)), (68, c1 (vB true))], [bx [vL flAttrG s_.attrs, vL flNestedG s_.nested], bx (aV a_), bx (aV b_)]⟩) ?_
 exact retE hb 5 (injO hq).symm
 refine callE hb 4 hq (gQ4c hb he s_ b_ a_) fun y8 hy8 hq => ?_
 refine callE hb 0 hq (gQ1x hb he y4 y8) fun y9 hy9 hq => ?_
 refine cpE hb 3 [7, 8, 68] (s' := ⟨none, [pick (bodyOf Tryz.f8) [1, 1, 1, 0, 1], pick (bodyOf Tryz.f8) [1, 1, 1, 1]], [], sl 113 [(7, c1 (vL flS y3)), (8, c1 (vL flS y4)), (68, c1 (vB (!y9)))], [bx [vL flAttrG s_.attrs, vL flNestedG s_.nested], bx (aV a_), bx (aV b_)]⟩) ?_
 refine ifE hb 0 [68] [] hq (fun hq _ => ?_) (fun hq _ => ?_)
 exact retE hb 5 (injO hq).symm
 refine loopE hb 12 (gQ0s y3 y4) (fun s1 => sl 113 [(7, c1 (vL flS y3)), (8, c1 (vL flS y4)), (9, c1 (vi s1.2)), (10, c1 (vi s1.1))]) (fun s1 => [none, none, none]) [7, 8, 9, 10] [0, 1, 2] 3 (s0 := (0, 0)) ⟨rfl, rfl, rfl, trivial⟩ hq (fun s1 x1 hq hn1 he1 => ?_)
 refine ifE hb 8 [72] [] hq (fun hq _ => ?_) (fun hq _ => ?_)
 refine drawE hb mixed 6 12 [] ?_
 refine ifE hb 3 [76, 77] [] hq (fun hq _ => ?_) (fun hq _ => ?_)
 refine idxE hb flS 2 hq fun x13 hx13 hq => ?_
 refine idxE hb flS 4 hq fun x14 hx14 hq => ?_
 refine ifE hb 5 [87, 88] [] hq (fun hq _ => ?_) (fun hq _ => ?_)
 refine cpE hb 2 [] (s' := ⟨none, [pick (bodyOf Tryz.f8) [1, 1, 1, 1, 1, 0, 1, 0, 0, 1, 0, 0, 0, 1, 0, 0], pick (bodyOf Tryz.f8) [1, 1, 1, 1, 1, 0, 1, 0, 0, 1, 0, 0, 0, 1, 0, 1], pick (bodyOf Tryz.f8) [1, 1, 1, 1, 1, 0, 1, 0, 0, 1, 0, 0, 1]], [(1, [pick (bodyOf Tryz.f8) [1, 1, 1, 1, 1, 0, 1, 0, 0, 1, 1], pick (bodyOf Tryz.f8) [1, 1, 1, 1, 1, 0, 1, 0]]), (0, [pick (bodyOf Tryz.f8) [1, 1, 1, 1, 1, 1]])], sl 113 [], [none, none, none]⟩) ?_
 exact retE hb 3 (he1 _ (injO hq))
 refine cpE hb 3 [7, 8, 9, 10] (s' := ⟨none, [pick (bodyOf Tryz.f8) [1, 1, 1, 1, 1, 0, 1, 0, 0, 1, 0, 0, 1, 0], pick (bodyOf Tryz.f8) [1, 1, 1, 1, 1, 0, 1, 0, 0, 1, 0, 0, 1, 1]], [(1, [pick (bodyOf Tryz.f8) [1, 1, 1, 1, 1, 0, 1, 0, 0, 1, 1], pick (bodyOf Tryz.f8) [1, 1, 1, 1, 1, 0, 1, 0]]), (0, [pick (bodyOf Tryz.f8) [1, 1, 1, 1, 1, 1]])], sl 113 [(7, c1 (vL flS y3)), (8, c1 (vL flS y4)), (9, c1 (vi s1.2)), (10, c1 (vi s1.1))], [none, none, none]⟩) ?_
 refine drawE hb mixed 0 13 [] ?_
 refine ifE hb 5 [92, 93] [] hq (fun hq _ => ?_) (fun hq _ => ?_)
 refine idxE hb flS 2 hq fun x17 hx17 hq => ?_
 refine idxE hb flS 3 hq fun x18 hx18 hq => ?_
 refine ifE hb 5 [102, 103] [] hq (fun hq _ => ?_) (fun hq _ => ?_)
 exact backE hb 12 [7, 8, 9, 10] [] 3 (hn1 _ (injO hq)) ⟨rfl, rfl, rfl, trivial⟩
 exact backE hb 8 [7, 8, 9, 10] [] 3 (hn1 _ (injO hq)) ⟨rfl, rfl, rfl, trivial⟩
 exact backE hb 20 [7, 8, 9, 10] [] 3 (hn1 _ (injO hq)) ⟨rfl, rfl, rfl, trivial⟩
 refine drawE hb mixed 16 13 [] ?_
 refine ifE hb 5 [92, 93] [] hq (fun hq _ => ?_) (fun hq _ => ?_)
 refine idxE hb flS 2 hq fun x21 hx21 hq => ?_
 refine idxE hb flS 3 hq fun x22 hx22 hq => ?_
 refine cpE hb 5 [7, 8, 9, 10, 103] (s' := ⟨none, [pick (bodyOf Tryz.f8) [1, 1, 1, 1, 1, 0, 1, 0, 0, 1, 0, 0, 1, 1]], [(1, [pick (bodyOf Tryz.f8) [1, 1, 1, 1, 1, 0, 1, 0, 0, 1, 1], pick (bodyOf Tryz.f8) [1, 1, 1, 1, 1, 0, 1, 0]]), (0, [pick (bodyOf Tryz.f8) [1, 1, 1, 1, 1, 1]])], sl 113 [(7, c1 (vL flS y3)), (8, c1 (vL flS y4)), (9, c1 (vi s1.2)), (10, c1 (vi s1.1)), (103, c1 (vB (decide (x21 = x22))))], [none, none, none]⟩) ?_
 refine ifE hb 0 [103] [] hq (fun hq _ => ?_) (fun hq _ => ?_)
 exact backE hb 12 [7, 8, 9, 10] [] 3 (hn1 _ (injO hq)) ⟨rfl, rfl, rfl, trivial⟩
 exact backE hb 8 [7, 8, 9, 10] [] 3 (hn1 _ (injO hq)) ⟨rfl, rfl, rfl, trivial⟩
 exact backE hb 20 [7, 8, 9, 10] [] 3 (hn1 _ (injO hq)) ⟨rfl, rfl, rfl, trivial⟩
 refine ifE hb 9 [109, 110] [] hq (fun hq _ => ?_) (fun hq _ => ?_)
 refine callE hb 0 hq (gQ1i hb he ) fun y25 hy25 hq => ?_
 exact retE hb 3 (he1 _ (injO hq))
 exact retE hb 4 (he1 _ (injO hq))
 refine callE hb 11 hq (gQ21 hb he s_) fun y26 hy26 hq => ?_
 refine ifE hb 2 [13, 14] [] hq (fun hq _ => ?_) (fun hq _ => ?_)
 exact cpE hb 30 [3, 4, 5, 43] (KJ1 true hq)
 refine callE hb 1 hq (gQ1s hb he a_) fun y28 hy28 hq => ?_
 refine ifE hb 3 [17, 18, 19] [] hq (fun hq _ => ?_) (fun hq _ => ?_)
 exact cpE hb 25 [3, 4, 5, 43] (KJ1 true hq)
 refine callE hb 1 hq (gQ1s hb he b_) fun y30 hy30 hq => ?_
 refine ifE hb 3 [22, 23, 24] [] hq (fun hq _ => ?_) (fun hq _ => ?_)
 exact cpE hb 20 [3, 4, 5, 43] (KJ1 true hq)
 refine ifE hb 4 [27, 28] [] hq (fun hq _ => ?_) (fun hq _ => ?_)
 refine ifE hb 6 [31, 32, 33, 34] [] hq (fun hq _ => ?_) (fun hq _ => ?_)
 exact cpE hb 10 [3, 4, 5, 43] (KJ1 true hq)
 refine ifE hb 4 [37, 38] [] hq (fun hq _ => ?_) (fun hq _ => ?_)
 exact cpE hb 6 [3, 4, 5, 43] (KJ1 (!decide (b_.kind = 5)) hq)
 exact cpE hb 6 [3, 4, 5, 43] (KJ1 false hq)
 refine ifE hb 10 [37, 38] [] hq (fun hq _ => ?_) (fun hq _ => ?_)
 exact cpE hb 6 [3, 4, 5, 43] (KJ1 (!decide (b_.kind = 5)) hq)
 exact cpE hb 6 [3, 4, 5, 43] (KJ1 false hq)
noncomputable def gQ38  (s_ : SchemaG) (name_ : ByteArray) : Option (AttrG × Bool) :=
 (gQ32 s_.attrs name_).bind fun y1 => some (y1.1, y1.2)
theorem gQ39 (hb : Base E E0 G) (he : ∀ w, E w → EnvV w)   (s_ : SchemaG) (name_ : ByteArray) : ∀ r_ : AttrG × Bool, gQ38 s_ name_ = some r_ →
 Pure E E0 Tryz.prog 38 [.agg [vL flAttrG s_.attrs, vL flNestedG s_.nested], .cell (vS name_)] (.tup [.agg [vS r_.1.name, vi r_.1.type_.kind, vL flT r_.1.type_.elems, vL flS r_.1.type_.names, vi r_.1.mode, vB r_.1.replace, vB r_.1.sensitive, vB r_.1.volatile], .cell (vB r_.2)]) := by
 refine fnE hb Tryz.func38 rfl fun r_ hq => ?_
 refine callE hb 11 hq (gQ34 hb he s_.attrs name_) fun y1 hy1 hq => ?_
 exact retE hb 5 (injO hq).symm
noncomputable def gQ6g (r_types_Equal : Ty → Ty → Option (Bool)) (s1_ : List Ty) (s2_ : List Ty) (s1 : Int) : Option ((Int) ⊕ (Bool)) :=
 bif (decide (s1 < (s1_.length : Int))) then (idx s1_ s1).bind fun x3 => (idx s2_ s1).bind fun x4 => (r_types_Equal x3 x4).bind fun y5 => bif (!y5) then some (.inr (false)) else some (.inl (IntKind.i64.wrap (s1 + 1))) else some (.inr (true))
noncomputable def gQ6f (r_types_Equal : Ty → Ty → Option (Bool)) (s1_ : List Ty) (s2_ : List Ty) : Option (Bool) :=
 bif (!decide ((s1_.length : Int) = (s2_.length : Int))) then some (false) else loopO (gQ6g r_types_Equal s1_ s2_) 0
theorem gQ6h (hb : Base E E0 G) (he : ∀ w, E w → EnvV w) (r_types_Equal : Ty → Ty → Option (Bool)) (hr_types_Equal : ∀ (a0 : Ty) (a1 : Ty) (r : Bool), r_types_Equal a0 a1 = some r → Pure E E0 Tryz.prog 39 [.agg (aT a0), .agg (aT a1)] (c1 (vB r))) (s1_ : List Ty) (s2_ : List Ty) : ∀ r_ : Bool, gQ6f r_types_Equal s1_ s2_ = some r_ →
 Pure E E0 Tryz.prog 86 [.cell (vL flT s1_), .cell (vL flT s2_), .cell (.pv (.sc (.func (.func 39) #[] #[])))] (c1 (vB r_)) := by
 refine fnE hb Tryz.func86 rfl fun r_ hq => ?_
 refine ifE hb 13 [14] [] hq (fun hq _ => ?_) (fun hq _ => ?_)
 exact retE hb 5 (injO hq).symm
 refine loopE hb 10 (gQ6g r_types_Equal s1_ s2_) (fun s1 => sl 32 [(1, c1 (vL flT s2_)), (2, c1 (.pv (.sc (.func (.func 39) #[] #[])))), (15, c1 (vL flT s1_)), (16, c1 (vi (s1_.length : Int))), (17, c1 (vi s1))]) (fun s1 => []) [1, 2, 15, 16, 17] [] 0 (s0 := 0) trivial hq (fun s1 x1 hq hn1 he1 => ?_)
 refine ifE hb 5 [18] [] hq (fun hq _ => ?_) (fun hq _ => ?_)
 refine idxE hb flT 7 hq fun x3 hx3 hq => ?_
 refine idxE hb flT 9 hq fun x4 hx4 hq => ?_
 refine callE hb 9 hq (hr_types_Equal x3 x4) fun y5 hy5 hq => ?_
 refine ifE hb 2 [30] [] hq (fun hq _ => ?_) (fun hq _ => ?_)
 exact retE hb 5 (he1 _ (injO hq))
 exact backE hb 7 [1, 2, 15, 16, 17] [] 0 (hn1 _ (injO hq)) trivial
 exact retE hb 6 (he1 _ (injO hq))
noncomputable def gQ6d (r_types_Equal : Ty → Ty → Option (Bool)) (a_ : Ty) (b_ : Ty) : Option (Bool) :=
 bif (decide (a_.kind = b_.kind)) then (gQ63 a_.names b_.names).bind fun y2 => bif y2 then (gQ6f r_types_Equal a_.elems b_.elems).bind fun y4 => some (y4) else some (false) else some (false)
theorem gQ6e (hb : Base E E0 G) (he : ∀ w, E w → EnvV w) (r_types_Equal : Ty → Ty → Option (Bool)) (hr_types_Equal : ∀ (a0 : Ty) (a1 : Ty) (r : Bool), r_types_Equal a0 a1 = some r → Pure E E0 Tryz.prog 39 [.agg (aT a0), .agg (aT a1)] (c1 (vB r))) (a_ : Ty) (b_ : Ty) : ∀ r_ : Bool, gQ6d r_types_Equal a_ b_ = some r_ →
 Pure E E0 Tryz.prog 39 [.agg (aT a_), .agg (aT b_)] (c1 (vB r_)) := by
 refine fnE hb Tryz.func39 rfl fun r_ hq => ?_
 refine ifE hb 14 [9, 10] [] hq (fun hq _ => ?_) (fun hq _ => ?_)
 refine callE hb 4 hq (gQ65 hb he a_.names b_.names) fun y2 hy2 hq => ?_
 refine ifE hb 2 [15, 16, 17] [] hq (fun hq _ => ?_) (fun hq _ => ?_)
 refine callE hb 4 hq (gQ6h hb he r_types_Equal hr_types_Equal a_.elems b_.elems) fun y4 hy4 hq => ?_
 exact retE hb 3 (injO hq).symm
 exact retE hb 8 (injO hq).symm
 exact retE hb 15 (injO hq).symm
noncomputable def tQ8p (rec : Ty → Ty → Option (Bool)) (a : Ty) (b : Ty) : Option (Bool) :=
 gQ6d (fun a0 a1 => rec a0 a1) a b
noncomputable def tQ8n (a0 : Ty) (a1 : Ty) : Option (Bool) := tieF relT wfT tQ8p a0 a1
theorem tQ8o (hb : Base E E0 G) (he : ∀ w, E w → EnvV w) (a0 : Ty) (a1 : Ty) (r : Bool) (hq : tQ8n a0 a1 = some r) : Pure E E0 Tryz.prog 39 [.agg (aT a0), .agg (aT a1)] (c1 (vB r)) :=
 tieF_ok (C := fun a b r => Pure E E0 Tryz.prog 39 [.agg (aT a), .agg (aT b)] (c1 (vB r))) (fun rec hr a b r hq => gQ6e hb he (fun a0 a1 => rec a0 a1) (fun a0 a1 r e => hr a0 a1 r e) a b r hq) a0 a1 r hq
noncomputable def gQ2y (a_ : List ByteArray) (b_ : List ByteArray) (s1 : Int) : Option ((Int) ⊕ (Bool)) :=
 bif (decide (s1 < (a_.length : Int))) then (idx a_ s1).bind fun x3 => (idx b_ s1).bind fun x4 => bif (!decide (x3 = x4)) then some (.inr (false)) else some (.inl (IntKind.i64.wrap (s1 + 1))) else some (.inr (true))
noncomputable def gQ2x  (a_ : List ByteArray) (b_ : List ByteArray) : Option (Bool) :=
 bif (!decide ((a_.length : Int) = (b_.length : Int))) then some (false) else loopO (gQ2y a_ b_) 0
theorem gQ2z (hb : Base E E0 G) (he : ∀ w, E w → EnvV w)   (a_ : List ByteArray) (b_ : List ByteArray) : ∀ r_ : Bool, gQ2x a_ b_ = some r_ →
 Pure E E0 Tryz.prog 87 [.cell (vL flS a_), .cell (vL flS b_)] (c1 (vB r_)) := by
 refine fnE hb Tryz.func87 rfl fun r_ hq => ?_
 refine ifE hb 13 [10] [] hq (fun hq _ => ?_) (fun hq _ => ?_)
 exact retE hb 5 (injO hq).symm
 refine loopE hb 8 (gQ2y a_ b_) (fun s1 => sl 26 [(0, c1 (vL flS a_)), (1, c1 (vL flS b_)), (5, c1 (vi s1))]) (fun s1 => []) [0, 1, 5] [] 0 (s0 := 0) trivial hq (fun s1 x1 hq hn1 he1 => ?_)
 refine ifE hb 8 [14] [] hq (fun hq _ => ?_) (fun hq _ => ?_)
 refine drawE hb mixed 5 8 [] ?_
 refine idxE hb flS 2 hq fun x3 hx3 hq => ?_
 refine idxE hb flS 3 hq fun x4 hx4 hq => ?_
 refine ifE hb 4 [25] [] hq (fun hq _ => ?_) (fun hq _ => ?_)
 exact retE hb 5 (he1 _ (injO hq))
 exact backE hb 8 [0, 1, 5] [] 0 (hn1 _ (injO hq)) trivial
 exact retE hb 6 (he1 _ (injO hq))
noncomputable def gQ2j (r_r10_Equal : Ty → Ty → Option (Bool)) (a_ : Ty) (b_ : Ty) (s1 : Int) : Option ((Int) ⊕ (Bool)) :=
 bif (decide (s1 < (a_.elems.length : Int))) then (idx a_.elems s1).bind fun x6 => (idx b_.elems s1).bind fun x7 => (r_r10_Equal x6 x7).bind fun y8 => bif (!y8) then some (.inr (false)) else some (.inl (IntKind.i64.wrap (s1 + 1))) else some (.inr (true))
noncomputable def gQ2i (r_r10_Equal : Ty → Ty → Option (Bool)) (a_ : Ty) (b_ : Ty) : Option (Bool) :=
 bif (!decide (a_.kind = b_.kind)) then some (false) else bif (!decide ((a_.elems.length : Int) = (b_.elems.length : Int))) then some (false) else (gQ2x a_.names b_.names).bind fun y3 => bif (!y3) then some (false) else loopO (gQ2j r_r10_Equal a_ b_) 0
theorem gQ2k (hb : Base E E0 G) (he : ∀ w, E w → EnvV w) (r_r10_Equal : Ty → Ty → Option (Bool)) (hr_r10_Equal : ∀ (a0 : Ty) (a1 : Ty) (r : Bool), r_r10_Equal a0 a1 = some r → Pure E E0 Tryz.prog 40 [.agg (aT a0), .agg (aT a1)] (c1 (vB r))) (a_ : Ty) (b_ : Ty) : ∀ r_ : Bool, gQ2i r_r10_Equal a_ b_ = some r_ →
 Pure E E0 Tryz.prog 40 [.agg (aT a_), .agg (aT b_)] (c1 (vB r_)) := by
 refine fnE hb Tryz.func40 rfl fun r_ hq => ?_
 refine ifE hb 15 [10, 11] [] hq (fun hq _ => ?_) (fun hq _ => ?_)
 exact retE hb 22 (injO hq).symm
 refine ifE hb 9 [18, 19, 20] [] hq (fun hq _ => ?_) (fun hq _ => ?_)
 exact retE hb 13 (injO hq).symm
 refine callE hb 4 hq (gQ2z hb he a_.names b_.names) fun y3 hy3 hq => ?_
 refine ifE hb 3 [26, 27] [] hq (fun hq _ => ?_) (fun hq _ => ?_)
 exact retE hb 5 (injO hq).symm
 refine cpE hb 8 [2, 3, 5] (s' := ⟨none, [pick (bodyOf Tryz.f40) [1, 1, 0, 1, 0]], [(0, [pick (bodyOf Tryz.f40) [1, 1, 1]])], sl 47 [(2, pt 0), (3, pt 1), (5, c1 (vi 0))], [bx (aT a_), bx (aT b_)]⟩) ?_
 refine loopE hb 0 (gQ2j r_r10_Equal a_ b_) (fun s1 => sl 47 [(2, pt 0), (3, pt 1), (5, c1 (vi s1))]) (fun s1 => [bx (aT a_), bx (aT b_)]) [2, 3, 5] [] 2 (s0 := 0) ⟨(by kernel_rfl), (by kernel_rfl), trivial⟩ hq (fun s1 x1 hq hn1 he1 => ?_)
 refine ifE hb 9 [32] [] hq (fun hq _ => ?_) (fun hq _ => ?_)
 refine drawE hb mixed 5 10 [] ?_
 refine idxE hb flT 3 hq fun x6 hx6 hq => ?_
 refine idxE hb flT 4 hq fun x7 hx7 hq => ?_
 refine callE hb 2 hq (hr_r10_Equal x6 x7) fun y8 hy8 hq => ?_
 refine ifE hb 2 [46] [] hq (fun hq _ => ?_) (fun hq _ => ?_)
 exact retE hb 5 (he1 _ (injO hq))
 exact backE hb 8 [2, 3, 5] [] 2 (hn1 _ (injO hq)) ⟨(by kernel_rfl), (by kernel_rfl), trivial⟩
 exact retE hb 6 (he1 _ (injO hq))
noncomputable def tQ8a (rec : Ty → Ty → Option (Bool)) (a : Ty) (b : Ty) : Option (Bool) :=
 gQ2i (fun a0 a1 => rec a0 a1) a b
noncomputable def tQ88 (a0 : Ty) (a1 : Ty) : Option (Bool) := tieF relT wfT tQ8a a0 a1
theorem tQ89 (hb : Base E E0 G) (he : ∀ w, E w → EnvV w) (a0 : Ty) (a1 : Ty) (r : Bool) (hq : tQ88 a0 a1 = some r) : Pure E E0 Tryz.prog 40 [.agg (aT a0), .agg (aT a1)] (c1 (vB r)) :=
 tieF_ok (C := fun a b r => Pure E E0 Tryz.prog 40 [.agg (aT a), .agg (aT b)] (c1 (vB r))) (fun rec hr a b r hq => gQ2k hb he (fun a0 a1 => rec a0 a1) (fun a0 a1 r e => hr a0 a1 r e) a b r hq) a0 a1 r hq
noncomputable def gQ0y  (z2 : Bool) : Option (Bool) :=
 some (z2)
noncomputable def gQ0x (s_ : SchemaG) (y4 : AttrG × Bool) (y5 : AttrG × Bool) (z1 : Bool) : Option (Bool) :=
 bif (y4.2 == y5.2) then bif z1 then (gQ4d s_).bind fun y8 => (gQ3e s_).bind fun y9 => (tQ88 y8 y9).bind fun y10 => bif y10 then (gQ1g).bind fun y12 => gQ0y y12 else gQ0y false else gQ0y false else gQ0y false
noncomputable def gQ0w  (s_ : SchemaG) (name_ : ByteArray) : Option (Bool) :=
 (gQ20 s_).bind fun y1 => bif (!y1) then (gQ1g).bind fun y3 => some (y3) else (gQ43 s_ name_).bind fun y4 => (gQ38 s_ name_).bind fun y5 => bif (decide (y4.1.name = y5.1.name)) then (tQ8n y4.1.type_ y5.1.type_).bind fun y14 => bif y14 then bif (decide (y4.1.mode = y5.1.mode)) then bif (y4.1.replace == y5.1.replace) then bif (y4.1.sensitive == y5.1.sensitive) then (gQ0x s_ y4 y5) (y4.1.volatile == y5.1.volatile) else (gQ0x s_ y4 y5) false else (gQ0x s_ y4 y5) false else (gQ0x s_ y4 y5) false else (gQ0x s_ y4 y5) false else (gQ0x s_ y4 y5) false
theorem gQ0z (hb : Base E E0 G) (he : ∀ w, E w → EnvV w)   (s_ : SchemaG) (name_ : ByteArray) : ∀ r_ : Bool, gQ0w s_ name_ = some r_ →
 Pure E E0 Tryz.prog 9 [.agg [vL flAttrG s_.attrs, vL flNestedG s_.nested], .cell (vS name_)] (c1 (vB r_)) := by
 refine fnE hb Tryz.func9 rfl fun r_ hq => ?_
 refine callE hb 9 hq (gQ21 hb he s_) fun y1 hy1 hq => ?_
 refine ifE hb 2 [12] [] hq (fun hq _ => ?_) (fun hq _ => ?_)
 refine callE hb 3 hq (gQ1i hb he ) fun y3 hy3 hq => ?_
 exact retE hb 2 (injO hq).symm
 refine callE hb 6 hq (gQ45 hb he s_ name_) fun y4 hy4 hq => ?_
 refine callE hb 11 hq (gQ39 hb he s_ name_) fun y5 hy5 hq => ?_
 refine joinE hb (gQ0x s_ y4 y5) (fun z1 => ⟨none, [pick (bodyOf Tryz.f9) [1, 1, 1, 1, 1]], [], sl 82 [(2, pt 0), (6, c1 (vB y4.2)), (8, c1 (vB y5.2)), (9, c1 (vB z1))], [bx [vL flAttrG s_.attrs, vL flNestedG s_.nested], bx [vS y4.1.name, vi y4.1.type_.kind, vL flT y4.1.type_.elems, vL flS y4.1.type_.names, vi y4.1.mode, vB y4.1.replace, vB y4.1.sensitive, vB y4.1.volatile], bx [vS y5.1.name, vi y5.1.type_.kind, vL flT y5.1.type_.elems, vL flS y5.1.type_.names, vi y5.1.mode, vB y5.1.replace, vB y5.1.sensitive, vB y5.1.volatile]]⟩) (x := r_) (fun z1 hq => ?_) (fun KJ1 => ?_)
 refine joinE hb gQ0y (fun z2 => ⟨none, [pick (bodyOf Tryz.f9) [1, 1, 1, 1, 1, 1]], [], sl 82 [(4, c1 (vB z2))], [bx [vL flAttrG s_.attrs, vL flNestedG s_.nested], bx [vS y4.1.name, vi y4.1.type_.kind, vL flT y4.1.type_.elems, vL flS y4.1.type_.names, vi y4.1.mode, vB y4.1.replace, vB y4.1.sensitive, vB y4.1.volatile], bx [vS y5.1.name, vi y5.1.type_.kind, vL flT y5.1.type_.elems, vL flS y5.1.type_.names, vi y5.1.mode, vB y5.1.replace, vB y5.1.sensitive, vB y5.1.volatile]]⟩) (x := r_) (fun z2 hq => ?_) (fun KJ2 => ?_)
 exact retE hb 0 (injO hq).symm
 refine drawE hb mixed 1 10 [] ?_
 refine ifE hb 4 [68, 69] [] hq (fun hq _ => ?_) (fun hq _ => ?_)
 refine ifE hb 3 [9, 70, 71, 72] [] hq (fun hq _ => ?_) (fun hq _ => ?_)
 refine callE hb 1 hq (gQ4i hb he s_) fun y8 hy8 hq => ?_
 refine callE hb 2 hq (gQ3g hb he s_) fun y9 hy9 hq => ?_
 refine callE hb 0 hq (tQ89 hb he y8 y9) fun y10 hy10 hq => ?_
 refine ifE hb 2 [77, 78, 79] [] hq (fun hq _ => ?_) (fun hq _ => ?_)
 refine callE hb 0 hq (gQ1i hb he ) fun y12 hy12 hq => ?_
 exact cpE hb 3 [4] (KJ2 y12 hq)
 exact cpE hb 4 [4] (KJ2 false hq)
 exact cpE hb 12 [4] (KJ2 false hq)
 exact cpE hb 15 [4] (KJ2 false hq)
 refine ifE hb 15 [30, 31] [] hq (fun hq _ => ?_) (fun hq _ => ?_)
 refine callE hb 4 hq (tQ8o hb he y4.1.type_ y5.1.type_) fun y14 hy14 hq => ?_
 refine ifE hb 2 [36, 37, 38] [] hq (fun hq _ => ?_) (fun hq _ => ?_)
 refine ifE hb 7 [43, 44, 45] [] hq (fun hq _ => ?_) (fun hq _ => ?_)
 refine ifE hb 7 [50, 51, 52] [] hq (fun hq _ => ?_) (fun hq _ => ?_)
 refine ifE hb 7 [57, 58, 59] [] hq (fun hq _ => ?_) (fun hq _ => ?_)
 exact cpE hb 8 [2, 6, 8, 9] (KJ1 (y4.1.volatile == y5.1.volatile) hq)
 exact cpE hb 8 [2, 6, 8, 9] (KJ1 false hq)
 exact cpE hb 15 [2, 6, 8, 9] (KJ1 false hq)
 exact cpE hb 22 [2, 6, 8, 9] (KJ1 false hq)
 exact cpE hb 29 [2, 6, 8, 9] (KJ1 false hq)
 exact cpE hb 36 [2, 6, 8, 9] (KJ1 false hq)
end Abs
end Go.Proofs.YtkffpfapfljinaaGreatDoor
