/-
  Rules for proofs that a program prints: a region is one equation for the kernel; what hangs on a list's or a string's size goes by a rule of its own.
  Rules for proofs that a program prints: arrays of one's own; codes; loops; ends.
  Rules for proofs that a program prints: cells in other words; the way back to a loop's head; loops; ends.
  Rules for proofs that a program prints: make, stores into arrays of one's own, calls that see the caller's variables, calls with arrays of one's own.
-/
import Derived.Test.YtpidpioifnnllaaGreatDoorAbsU
set_option linter.unusedVariables false
set_option linter.unusedSimpArgs false
namespace Go.Proofs.YtpidpioifnnllaaGreatDoor
set_option linter.unusedSimpArgs false
set_option linter.unusedVariables false
namespace Abs
open Go.RowKit
variable {E : World → Prop} {E0 : Nat} {P : Program} {G : Nat → Option (List PV)} {m : Nat} {T T' : List TV} {σ σ' : Sto} {K : Ex → List TV → Sto → Prop} {r : List Code}
def idx {α:Type} (xs:List α) (i:Int):Option α:=if 0≤i then xs[i.toNat]? else none
def sidx (s:ByteArray) (i:Int):Option Int:=if h:0≤i∧i < s.size then some ((s[i.toNat]'(by omega)).toNat:Int) else none
def sslc (s:ByteArray) (lo hi:Int):Option ByteArray:=if 0≤lo∧lo≤hi∧hi≤s.size then some (s.extract lo.toNat hi.toNat) else none
def cat (a b:ByteArray):Option ByteArray:=if a.size+b.size≤9223372036854775807 then some (a++b) else none
def app {α:Type} (by_:Nat) (xs ys:List α):Option (List α):=if (xs.length+ys.length)*by_≤140737488355328∧xs.length+ys.length≤9223372036854775807 then some (xs++ys) else none
structure Fl (α:Type) where
 c:α→List PV
 f:List α→List PV
 sz:Nat
 pos:0 < sz
 len:∀ x,(c x).length=sz
 nil:f []=[]
 cons:∀ x r,f (x::r)=c x++f r
variable {α : Type} (F : Fl α)
theorem Fl.length:∀ l,(F.f l).length=l.length*F.sz
 | []=>by simp[F.nil]
 | x::r=>by rw[F.cons,List.length_append,F.len,Fl.length r,List.length_cons,Nat.succ_mul,Nat.add_comm]
theorem Fl.append:∀ a b,F.f (a++b)=F.f a++F.f b
 | [],b=>by simp[F.nil]
 | x::r,b=>by rw[List.cons_append,F.cons,F.cons,Fl.append r b,List.append_assoc]
theorem Fl.drop:∀ (l:List α) (i:Nat),(F.f l).drop (i*F.sz)=F.f (l.drop i)
 | l,0=>by simp
 | [],i+1=>by simp[F.nil]
 | x::r,i+1=>by
  rw[F.cons,Nat.succ_mul,Nat.add_comm,← List.drop_drop,List.drop_left' (F.len x),Fl.drop r i,List.drop_succ_cons]
theorem Fl.take:∀ (l:List α) (i:Nat),(F.f l).take (i*F.sz)=F.f (l.take i)
 | l,0=>by simp[F.nil]
 | [],i+1=>by simp[F.nil]
 | x::r,i+1=>by
  rw[F.cons,Nat.succ_mul,Nat.add_comm,List.take_succ_cons,F.cons,List.take_append,F.len,List.take_of_length_le (by rw[F.len]; omega)]
  rw[show F.sz+i*F.sz - F.sz=i*F.sz by omega,Fl.take r i]
theorem Fl.idx {xs:List α} {i:Int} {x:α} (h:Abs.idx xs i=some x):0≤i∧i < xs.length∧(F.f xs).drop (i.toNat*F.sz)=F.c x++F.f (xs.drop (i.toNat+1)):=by
 unfold Abs.idx at h
 split at h
 ·rename_i h0
  have hl:i.toNat < xs.length:=by
   rcases Nat.lt_or_ge i.toNat xs.length with k | k
   ·exact k
   ·rw[List.getElem?_eq_none k]at h; cases h
  rw[List.getElem?_eq_getElem hl]at h
  obtain rfl:xs[i.toNat]=x:=by simpa using h
  refine ⟨h0,by omega,?_⟩
  rw[F.drop,List.drop_eq_getElem_cons hl,F.cons]
 ·cases h
theorem Fl.ne {xs:List α} (h:xs≠[]):F.f xs≠[]:=fun k=>h (by
 have:=F.length xs
 rw[k]at this
 rcases Nat.mul_eq_zero.1 this.symm with h | h
 ·exact List.eq_nil_of_length_eq_zero h
 ·have:=F.pos; omega)
def slTV (i:Nat):List (Nat×TV)→TV
 | []=>.one (.cell .any)
 | (j,c)::r=>bif Nat.beq i j then c else slTV i r
def slF:Nat→Nat→List (Nat×TV)→List TV
 | 0,_,_=>[]
 | n+1,i,l=>slTV i l::slF n (i+1) l
def sl (n:Nat) (l:List (Nat×TV)):List TV:=slF n 0 l
abbrev c1 (c:AC):TV:=.one (.cell c)
abbrev pI (k:IntKind) (x:Int):PV:=.sc (.int k x)
abbrev pB (x:Bool):PV:=.sc (.bool x)
abbrev pS (x:ByteArray):PV:=.sc (.string x)
def pL (F:Fl α) (l:List α):PV:=.sl false l.length (F.f l)
abbrev vI (k:IntKind) (x:Int):AC:=.pv (.sc (.int k x))
abbrev vi (x:Int):AC:=.pv (.sc (.int .i64 x))
abbrev vB (x:Bool):AC:=.pv (.sc (.bool x))
abbrev vS (x:ByteArray):AC:=.pv (.sc (.string x))
abbrev vL (F:Fl α) (l:List α):AC:=.pv (pL F l)
abbrev vN:AC:=.pv (.sc (.slice none 0 0))
def vO (F:Fl α) (id:Nat) (l:List α):AC:=.own id (F.f l).length 0 l.length
def gr (sz fr:Nat) (cs:List PV):AObj:=match cs with | []=>.nilarr sz | c::r=>.arr (c::r) sz fr
theorem gr_ver (sz fr:Nat) (cs:List PV):(gr sz fr cs).ver=cs.length:=by cases cs <;> rfl
theorem gr_ne {sz fr:Nat} {cs:List PV} (h:cs≠[]):gr sz fr cs=.arr cs sz fr:=by cases cs with | nil=>exact absurd rfl h | cons c r=>rfl
def asqX (D:Bool) (E:World→Prop) (E0:Nat) (P:Program) (G:Nat→Option (List PV)) (ops:Array Oper) (l:List Oper) (T:List TV) (σ:Sto) (K:List TV→Sto→Prop):Prop :=
 match D with
 | true=>asqD E E0 P G ops l T σ K
 | false=>asq E E0 P G ops l T σ K
variable {D : Bool} {ops : Array Oper} {l : List Oper} {R : List TV → Sto → Prop}
def asqF (D:Bool) (P:Program) (G:Nat→Option (List PV)) (ops:Array Oper):List Oper→List TV→Sto→Option (List TV×Sto)
 | [],T,σ=>some (T,σ)
 | o::r,T,σ=>match qz ops T o with
  | some true=>match aop P (evT G T) σ o.op with
   | some (.upd σ' v)=>if D=true then none else asqF D P G ops r (putT T o.dst v) σ'
   | some (.val v)=>asqF D P G ops r (putT T o.dst v) σ
   | some (.new ob f)=>asqF D P G ops r (putT T o.dst (f σ.length)) (σ++[some ob])
   | none=>none
  | some false=>asqF D P G ops r (putT T o.dst qw) σ
  | none=>none
theorem qfc {ρ:Operand→TV} {o:Op} {eff:Eff} {K:Eff→Prop} (h:aop P ρ σ o=some eff) (hk:K eff):OpA E E0 P ρ σ o K:=by
 unfold OpA
 split
 ·simp[aop]at h
 ·rw[h]; exact hk
theorem q6x {o:Oper} {eff:Eff} (hw:qz ops T o=some true) (h:aop P (evT G T) σ o.op=some eff) (hD:D=true→eff.isUpd=false)
  (k:asqX D E E0 P G ops l (putT T o.dst (effV σ eff)) (effσ σ eff) R):asqX D E E0 P G ops (o::l) T σ R:=by
 cases D with
 | false =>
  show asq E E0 P G ops (o::l) T σ R
  unfold asq
  rw[hw]
  exact .inl (qfc h k)
 | true =>
  show asqD E E0 P G ops (o::l) T σ R
  unfold asqD
  rw[hw]
  refine qfc h ?_
  have:=hD rfl
  cases eff with
  | upd _ _=>cases this
  | val v=>exact k
  | new ob f=>exact k
theorem qp4 {o:Oper} (hw:qz ops T o=some false) (k:asqX D E E0 P G ops l (putT T o.dst qw) σ R):asqX D E E0 P G ops (o::l) T σ R:=by
 cases D with
 | false=>show asq E E0 P G ops (o::l) T σ R; unfold asq; rw[hw]; exact k
 | true=>show asqD E E0 P G ops (o::l) T σ R; unfold asqD; rw[hw]; exact k
theorem qd0 (k:R T σ):asqX D E E0 P G ops [] T σ R:=by cases D <;> exact k
theorem q6w:∀ {l l':List Oper} {T:List TV} {σ:Sto},asqF D P G ops l T σ=some (T',σ')→asqX D E E0 P G ops l' T' σ' R→asqX D E E0 P G ops (l++l') T σ R
 | [],_,T,σ,h,k=>by simp[asqF]at h; obtain ⟨rfl,rfl⟩:=h; exact k
 | o::r,l',T,σ,h,k=>by
  unfold asqF at h
  split at h
  ·rename_i hw
   split at h
   ·rename_i σ1 v ha
    split at h
    ·cases h
    ·rename_i hD; exact q6x hw ha (fun e=>absurd e hD) (q6w h k)
   ·rename_i v ha; exact q6x hw ha (fun _=>rfl) (q6w h k)
   ·rename_i ob f ha; exact q6x hw ha (fun _=>rfl) (q6w h k)
   ·cases h
  ·rename_i hw; exact qp4 hw (q6w h k)
  ·cases h
def hd (ops:Array Oper) (l:List Oper) (T:List TV):Option Oper :=
 match l with
 | o::_=>match qz ops T o with
  | some true=>some o
  | _=>none
 | []=>none
theorem q4u {o:Oper} (h:hd ops l T=some o):∃ r,l=o::r∧qz ops T o=some true:=by
 unfold hd at h
 split at h
 ·rename_i o' r
  split at h
  ·rename_i hw; simp at h; subst h; exact ⟨r,rfl,hw⟩
  ·cases h
 ·cases h
theorem q49 {o:Oper} (h:hd ops l T=some o) {v:TV} (ha:aop P (evT G T) σ o.op=some (.val v)) (k:asqX D E E0 P G ops l.tail (putT T o.dst v) σ R):asqX D E E0 P G ops l T σ R:=by
 obtain ⟨r,rfl,hw⟩:=q4u h
 exact q6x hw ha (fun _=>rfl) k
def q8i (P:Program) (G:Nat→Option (List PV)) (ops:Array Oper) (l:List Oper) (T:List TV) (σ:Sto):Option (FuncId×List AV×Option Tmp) :=
 (hd ops l T).bind fun o=>match o.op with
 | .call { callee:=.value f,args,.. }=>match q4o (evT G T f),q2m (evT G T) args.toList with
  | some (g,[]),some vs=>bif enters P g && !vs.any AV.owns then (q17 σ vs).map fun ws=>(g,ws,o.dst) else none
  | _,_=>none
 | _=>none
theorem callF {g:FuncId} {ws:List AV} {d:Option Tmp} {v:TV} (h:q8i P G ops l T σ=some (g,ws,d)) (hp:Pure E E0 P g ws v) (k:asqX D E E0 P G ops l.tail (putT T d v) σ R):asqX D E E0 P G ops l T σ R:=by
 unfold q8i at h
 simp only[Option.bind_eq_some_iff]at h
 obtain ⟨o,ho,h⟩:=h
 obtain ⟨r,rfl,hw⟩:=q4u ho
 split at h
 ·rename_i f args tys e
  split at h
  ·rename_i g' vs h1 h2
   cases hb:(enters P g' && !vs.any AV.owns) with
   | false=>rw[hb]at h; cases h
   | true =>
    rw[hb]at h
    simp only[cond_true,Option.map_eq_some_iff]at h
    obtain ⟨ws',h3,h4⟩:=h
    simp at h4 hb
    obtain ⟨rfl,rfl,rfl⟩:=h4
    have ce:CallEff E E0 P σ g' (vs++[]) (.val v):=by
     rw[List.append_nil]
     exact .val h3 hb.1 hp (.inr (by simpa using hb.2))
    have hop:∀ {K:Eff→Prop},K (.val v)→OpA E E0 P (evT G T) σ o.op K:=by
     intro K hk
     rw[e]
     unfold OpA
     simp only[h1,h2]
     exact ⟨_,ce,hk⟩
    cases D with
    | false=>show asq E E0 P G ops (o::r) T σ R; unfold asq; rw[hw]; exact .inl (hop k)
    | true=>show asqD E E0 P G ops (o::r) T σ R; unfold asqD; rw[hw]; exact hop k
  ·cases h
 ·cases h
def qb2 (P:Program) (G:Nat→Option (List PV)) (ops:Array Oper) (l:List Oper) (T:List TV):Option (Nat×List PV×Nat×Int×Option Tmp) :=
 (hd ops l T).bind fun o=>match o.op with
 | .indexAddr t x i=>match q11 (evT G T x),elem? P t,intOf? (evT G T i) with
  | some (.pv (.sl _ n cs)),some (_,sz,_),some iv=>some (n,cs,sz,iv,o.dst)
  | _,_,_=>none
 | _=>none
theorem idxF {xs:List α} {x:α} {i:Int} {d:Option Tmp} (hx:idx xs i=some x) (h:qb2 P G ops l T=some (xs.length,F.f xs,F.sz,i,d))
  (k:asqX D E E0 P G ops l.tail (putT T d (c1 (.pv (.pp (F.c x++F.f (xs.drop (i.toNat+1))))))) σ R):asqX D E E0 P G ops l T σ R:=by
 unfold qb2 at h
 simp only[Option.bind_eq_some_iff]at h
 obtain ⟨o,ho,h⟩:=h
 split at h
 ·rename_i t x' i' e
  split at h
  ·rename_i full n cs e0 sz by_ iv h1 h2 h3
   simp at h
   obtain ⟨rfl,rfl,rfl,rfl,rfl⟩:=h
   obtain ⟨g1,g2,g3⟩:=F.idx hx
   refine q49 ho (v:=c1 (.pv (.pp (F.c x++F.f (xs.drop (iv.toNat+1)))))) ?_ k
   rw[e]
   simp only[aop,h3,Option.bind_some]
   unfold q6r
   simp only[h1,h2]
   rw[if_pos ⟨g1,g2⟩,g3]
   rfl
  ·cases h
 ·cases h
def qbx (P:Program) (G:Nat→Option (List PV)) (ops:Array Oper) (l:List Oper) (T:List TV):Option (ByteArray×Int×Option Tmp) :=
 (hd ops l T).bind fun o=>match o.op with
 | .index t x i=>match evT G T x,intOf? (evT G T i) with
  | .one (.cell (.pv (.sc (.string s)))),some iv=>bif q4b P t then some (s,iv,o.dst) else none
  | _,_=>none
 | _=>none
theorem sidxF {s:ByteArray} {i x:Int} {d:Option Tmp} (hx:sidx s i=some x) (h:qbx P G ops l T=some (s,i,d))
  (k:asqX D E E0 P G ops l.tail (putT T d (c1 (vI .u8 x))) σ R):asqX D E E0 P G ops l T σ R:=by
 unfold qbx at h
 simp only[Option.bind_eq_some_iff]at h
 obtain ⟨o,ho,h⟩:=h
 split at h
 ·rename_i t x' i' e
  split at h
  ·rename_i s' iv h1 h2
   cases hs:q4b P t with
   | false=>rw[hs]at h; cases h
   | true =>
    rw[hs]at h
    simp at h
    obtain ⟨rfl,rfl,rfl⟩:=h
    refine q49 ho (v:=c1 (vI .u8 x)) ?_ k
    rw[e]
    simp only[aop,h2,Option.bind_some]
    unfold sidx at hx
    split at hx
    ·rename_i hb
     unfold qa6
     rw[h1]
     simp only[hs,if_true,dif_pos hb,Option.map_some]
     simp at hx
     rw[← hx]; rfl
    ·cases hx
  ·cases h
 ·cases h
def q6z (x:Option TV) (d:Int):Option Int :=
 match x with
 | none=>some d
 | some v=>intOf? v
theorem qho {x:Option TV} {d:Nat} {i:Int} (h:q6z x d=some i) (h0:0≤i):q21 x d=some i.toNat:=by
 unfold q6z at h
 unfold q21
 cases x with
 | none=>simp at h; subst h; simp
 | some v=>simp only at h ⊢; rw[h]; simp[h0]
def slcPre (P:Program) (G:Nat→Option (List PV)) (ops:Array Oper) (l:List Oper) (T:List TV):Option (Nat×List PV×Nat×Int×Int×Option Tmp) :=
 (hd ops l T).bind fun o=>match o.op with
 | .slice t x lo hi none=>match q11 (evT G T x),elem? P t with
  | some (.pv (.sl _ n cs)),some (_,sz,_)=>match q6z (optT (evT G T) lo) 0,q6z (optT (evT G T) hi) n with
   | some a,some b=>some (n,cs,sz,a,b,o.dst)
   | _,_=>none
  | _,_=>none
 | _=>none
theorem prep_full {prot:Nat→Nat→Prop} {w:World} {full:Bool} {n:Nat} {cs:List PV} {u:Value} (h:PRep prot w (.sl full n cs) u):PRep prot w (.sl false n cs) u:=by
 unfold PRep at h ⊢
 rcases h with h | ⟨b,off,cap,h1,h2,_,h4⟩ | ⟨h1,h2,a,cap,h3,_⟩
 ·exact .inl h
 ·exact .inr (.inl ⟨b,off,cap,h1,h2,(fun k=>nomatch k),h4⟩)
 ·exact .inr (.inr ⟨h1,h2,a,cap,h3,fun k=>nomatch k⟩)
def qc1 (P:Program) (G:Nat→Option (List PV)) (ops:Array Oper) (l:List Oper) (T:List TV):Option (ByteArray×Int×Int×Option Tmp) :=
 (hd ops l T).bind fun o=>match o.op with
 | .slice t x lo hi none=>match q11 (evT G T x) with
  | some (.pv (.sc (.string s)))=>bif q4b P t then (match q6z (optT (evT G T) lo) 0,q6z (optT (evT G T) hi) s.size with
   | some a,some b=>some (s,a,b,o.dst)
   | _,_=>none) else none
  | _=>none
 | _=>none
theorem sslcF {s x:ByteArray} {a b:Int} {d:Option Tmp} (hx:sslc s a b=some x) (h:qc1 P G ops l T=some (s,a,b,d))
  (k:asqX D E E0 P G ops l.tail (putT T d (c1 (vS x))) σ R):asqX D E E0 P G ops l T σ R:=by
 unfold qc1 at h
 simp only[Option.bind_eq_some_iff]at h
 obtain ⟨o,ho,h⟩:=h
 split at h
 ·rename_i t x' lo hi e
  split at h
  ·rename_i s' h1
   cases hs:q4b P t with
   | false=>rw[hs]at h; cases h
   | true =>
    rw[hs]at h
    simp only[cond_true]at h
    split at h
    ·rename_i a' b' h2 h3
     simp at h
     obtain ⟨rfl,rfl,rfl,rfl⟩:=h
     unfold sslc at hx
     split at hx
     ·rename_i hb
      simp at hx; subst hx
      refine q49 ho (v:=c1 (vS _)) ?_ k
      rw[e]
      simp only[aop]
      unfold q8b
      have hno:optT (evT G T) none=none:=rfl
      simp only[h1,hs,if_true,hno]
      rw[qho h2 hb.1,qho h3 (by omega)]
      simp only
      rw[if_pos (by omega)]
      rfl
     ·cases hx
    ·cases h
  ·cases h
 ·cases h
def q65 (op:BinOp) (P:Program) (G:Nat→Option (List PV)) (ops:Array Oper) (l:List Oper) (T:List TV):Option (Value×Value×Option Tmp) :=
 (hd ops l T).bind fun o=>match o.op with
 | .binOp op' _ x y _=>if op'=op then (match evT G T x,evT G T y with
  | .one (.cell (.pv (.sc a))),.one (.cell (.pv (.sc b)))=>some (a,b,o.dst)
  | _,_=>none) else none
 | _=>none
theorem qpn {op:BinOp} {a b v:Value} {d:Option Tmp} (h:q65 op P G ops l T=some (a,b,d)) (hv:∀ t,q6t P op t a b=some v) (hk:∀ t,q4i P σ op t (.pv (.sc a)) (.pv (.sc b))=false)
  (k:asqX D E E0 P G ops l.tail (putT T d (c1 (.pv (.sc v)))) σ R):asqX D E E0 P G ops l T σ R:=by
 unfold q65 at h
 simp only[Option.bind_eq_some_iff]at h
 obtain ⟨o,ho,h⟩:=h
 split at h
 ·rename_i op' t x' y' t' e
  split at h
  ·rename_i hop
   subst hop
   split at h
   ·rename_i a' b' h1 h2
    simp at h
    obtain ⟨rfl,rfl,rfl⟩:=h
    refine q49 ho (v:=c1 (.pv (.sc v))) ?_ k
    rw[e]
    simp only[aop,h1,h2,q11,hk,q56,hv]
    rfl
   ·cases h
  ·cases h
 ·cases h
theorem unk_sc {op:BinOp} {t:TypeId} {a:Value} {y:AC}:q4i P σ op t (.pv (.sc a)) y=false:=by simp[q4i]
theorem catF {a b x:ByteArray} {d:Option Tmp} (hx:cat a b=some x) (h:q65 .add P G ops l T=some (.string a,.string b,d))
  (k:asqX D E E0 P G ops l.tail (putT T d (c1 (vS x))) σ R):asqX D E E0 P G ops l T σ R:=by
 unfold cat at hx
 split at hx
 ·rename_i hc
  simp at hx; subst hx
  exact qpn h (fun t=>by simp[q6t,q8c,hc]) (fun _=>unk_sc) k
 ·cases hx
end Abs
end Go.Proofs.YtpidpioifnnllaaGreatDoor
namespace Go.Proofs.YtpidpioifnnllaaGreatDoor
set_option linter.unusedSimpArgs false
set_option linter.unusedVariables false
namespace Abs
open Go.RowKit
variable {E : World → Prop} {E0 : Nat} {P : Program} {G : Nat → Option (List PV)} {m : Nat} {T T' : List TV} {σ σ' : Sto} {K : Ex → List TV → Sto → Prop} {r : List Code}
variable {α : Type} (F : Fl α) {D : Bool} {ops : Array Oper} {l : List Oper} {R : List TV → Sto → Prop}
def arO (nilly:Bool) (sz fr:Nat) (cs:List PV):AObj:=match nilly with | true=>gr sz fr cs | false=>.arr cs sz fr
theorem qha (b:Bool) (sz fr:Nat) (cs:List PV):(arO b sz fr cs).ver=cs.length:=by cases b; rfl; exact gr_ver _ _ _
theorem q2r (b:Bool) (sz fr:Nat) (cs:List PV):arO b sz fr cs=.arr cs sz fr∨(cs=[]∧arO b sz fr cs=.nilarr sz):=by
 cases b with
 | false=>exact .inl rfl
 | true=>cases cs with
  | nil=>exact .inr ⟨rfl,rfl⟩
  | cons c r=>exact .inl rfl
theorem q7e {b:Bool} {id fr:Nat} {xs:List α} (ho:σ[id]?=some (some (arO b F.sz fr (F.f xs)))):live σ id (F.f xs).length=some (arO b F.sz fr (F.f xs)):=by
 unfold live
 rw[ho]
 simp only
 rw[if_pos (qha _ _ _ _)]
theorem q7l {xs:List α} (h:F.f xs=[]):xs=[]:=by
 cases xs with
 | nil=>rfl
 | cons x r=>exact absurd h (F.ne (by simp))
theorem qw5 {b:Bool} {id fr:Nat} {xs:List α} (ho:σ[id]?=some (some (arO b F.sz fr (F.f xs)))):q36 σ (vO F id xs)=some (xs.length,F.f xs):=by
 unfold q36 vO
 simp only[q7e F ho]
 rcases q2r b F.sz fr (F.f xs) with e | ⟨e0,e⟩
 ·rw[e]
  simp only[List.drop_zero]
  rw[← F.length,List.take_length]
 ·rw[e,e0]
  simp[q7l F e0]
theorem qe4 {b:Bool} {id fr:Nat} {xs:List α} (ho:σ[id]?=some (some (arO b F.sz fr (F.f xs)))):frzC σ (vO F id xs)=some (pL F xs):=by
 unfold frzC vO
 simp only[ho]
 rcases q2r b F.sz fr (F.f xs) with e | ⟨e0,e⟩
 ·rw[e]
  simp only[List.drop_zero,if_true]
  rw[← F.length,List.take_length]; rfl
 ·rw[e,e0]
  simp[q7l F e0,pL,F.nil]
def q6v (P:Program) (G:Nat→Option (List PV)) (ops:Array Oper) (l:List Oper) (T:List TV):Option (AC×AC×Nat×Nat×Option Tmp) :=
 (hd ops l T).bind fun o=>match o.op with
 | .call { callee:=.builtin .append,args,argTypes }=>match args.toList,argTypes.toList with
  | [x,y],[t,u]=>bif Nat.beq t u then (match elem? P t,q11 (evT G T x),q11 (evT G T y) with
   | some (e,sz,by_),some b,some s=>match zero? P e with
    | some z=>bif Nat.beq z.cells.length sz && z.cells.all AC.ok && Nat.blt 0 sz then some (b,s,sz,by_,o.dst) else none
    | none=>none
   | _,_,_=>none) else none
  | _,_=>none
 | _=>none
theorem qcx {b s:AC} {sz by_:Nat} {d:Option Tmp} (h:q6v P G ops l T=some (b,s,sz,by_,d)) :
  ∃ (o:Oper) (t e:TypeId) (z:AV) (x y:TV),hd ops l T=some o∧o.dst=d∧aop P (evT G T) σ o.op=q61 P σ t x y∧x=c1 b∧y=c1 s∧elem? P t=some (e,sz,by_)∧zero? P e=some z∧z.cells.length=sz∧z.cells.all AC.ok=true∧0 < sz:=by
 unfold q6v at h
 simp only[Option.bind_eq_some_iff]at h
 obtain ⟨o,ho,h⟩:=h
 split at h
 ·rename_i args tys e
  split at h
  ·rename_i x y t u e1 e2
   cases htu:Nat.beq t u with
   | false=>rw[htu]at h; cases h
   | true =>
    rw[htu]at h
    simp only[cond_true]at h
    obtain rfl:t=u:=Nat.eq_of_beq_eq_true htu
    split at h
    ·rename_i e' sz' by' b' s' h1 h2 h3
     split at h
     ·rename_i z hz
      cases hc:(Nat.beq z.cells.length sz' && z.cells.all AC.ok && Nat.blt 0 sz') with
      | false=>rw[hc]at h; cases h
      | true =>
       rw[hc]at h
       simp at h
       obtain ⟨rfl,rfl,rfl,rfl,rfl⟩:=h
       simp only[Bool.and_eq_true]at hc
       refine ⟨o,t,e',z,_,_,ho,rfl,?_,q1a h2,q1a h3,h1,hz,Nat.eq_of_beq_eq_true hc.1.1,hc.1.2,Nat.lt_of_lt_of_le (Nat.lt_succ_self _) (Nat.le_of_ble_eq_true hc.2)⟩
       rw[e]
       simp only[aop,e1,e2,if_true]
     ·cases h
    ·cases h
  ·cases h
 ·cases h
theorem qb0 {o:Oper} (h:hd ops l T=some o) {v:TV} (ha:aop P (evT G T) σ o.op=some (.upd σ' v)) (k:asqX false E E0 P G ops l.tail (putT T o.dst v) σ' R):asqX false E E0 P G ops l T σ R:=by
 obtain ⟨r,rfl,hw⟩:=q4u h
 exact q6x hw ha (fun e=>nomatch e) k
theorem qjn {o:Oper} (h:hd ops l T=some o) {ob:AObj} {f:Nat→TV} (ha:aop P (evT G T) σ o.op=some (.new ob f)) (k:asqX D E E0 P G ops l.tail (putT T o.dst (f σ.length)) (σ++[some ob]) R):asqX D E E0 P G ops l T σ R:=by
 obtain ⟨r,rfl,hw⟩:=q4u h
 exact q6x hw ha (fun _=>rfl) k
theorem app_eq {xs ys zs:List α} {by_:Nat} (h:app by_ xs ys=some zs):zs=xs++ys∧(xs.length+ys.length)*by_≤140737488355328∧xs.length+ys.length≤9223372036854775807:=by
 unfold app at h
 split at h
 ·rename_i hc; simp at h; exact ⟨h.symm,hc⟩
 ·cases h
theorem q7w {σ:Sto} {id:Nat} {o:Option AObj} (h:σ[id]?=some o):σ.set id o=σ:=by
 apply List.ext_getElem?
 intro i
 by_cases hi:id=i
 ·subst hi
  have hlt:id < σ.length:=by
   rcases Nat.lt_or_ge id σ.length with k | k
   ·exact k
   ·rw[List.getElem?_eq_none k]at h; cases h
  rw[List.getElem?_set_self hlt,h]
 ·rw[List.getElem?_set_ne hi]
theorem qh8 {xs ys zs : List α} {nb : Bool} {id fr by_ : Nat} {s : AC} {d : Option Tmp} (hz : app by_ xs ys = some zs) (h : q6v P G ops l T = some (vO F id xs, s, F.sz, by_, d)) (hs : q36 σ s = some (ys.length, F.f ys))
    (ho : σ[id]? = some (some (arO nb F.sz fr (F.f xs)))) (hfr : fr ≤ (F.f xs).length)
    (k : asqX false E E0 P G ops l.tail (putT T d (c1 (vO F id zs))) (σ.set id (some (arO nb F.sz fr (F.f zs)))) R) : asqX false E E0 P G ops l T σ R := by
  obtain ⟨o, t, e, z, x, y, h1, rfl, h2, hx, hy, h3, h4, h5, h6, h7⟩ := qcx (σ := σ) h
  obtain ⟨rfl, hb1, hb2⟩ := app_eq hz
  have hlv := q7e F ho
  have hcl : (F.f ys).length = ys.length * F.sz ∧ z.cells.length = F.sz ∧ z.cells.all AC.ok = true ∧ 0 < F.sz := ⟨F.length ys, h5, h6, h7⟩
  subst hx hy
  have key : q61 P σ t (c1 (vO F id xs)) (c1 s) = match arO nb F.sz fr (F.f xs) with
      | .arr cells sz' fr => if ys.length = 0 then some (.val (c1 (vO F id xs)))
          else if sz' = F.sz ∧ 0 = 0 ∧ xs.length * F.sz = cells.length ∧ fr ≤ cells.length ∧ (xs.length + ys.length) * by_ ≤ 140737488355328 ∧ xs.length + ys.length ≤ 9223372036854775807 then
              some (.upd (σ.set id (some (.arr (cells ++ F.f ys) F.sz fr))) (c1 (.own id (cells ++ F.f ys).length 0 (xs.length + ys.length)))) else none
      | .nilarr sz' => if ys.length = 0 then some (.val (c1 (vO F id xs)))
            else if sz' = F.sz ∧ xs.length = 0 ∧ ys.length * by_ ≤ 140737488355328 ∧ ys.length ≤ 9223372036854775807 then some (.upd (σ.set id (some (.arr (F.f ys) F.sz 0))) (c1 (.own id (F.f ys).length 0 ys.length)))
            else none
      | _ => none := by
    unfold q61
    simp only [h3, q11, hs, h4]
    rw [if_pos hcl]
    simp only [vO, hlv]
    rcases q2r nb F.sz fr (F.f xs) with e | ⟨_, e⟩ <;> rw [e]
  rcases Nat.eq_zero_or_pos ys.length with hy0 | hy0
  · obtain rfl : ys = [] := List.eq_nil_of_length_eq_zero hy0
    have hval : aop P (evT G T) σ o.op = some (.val (c1 (vO F id xs))) := by
      rw [h2, key]
      rcases q2r nb F.sz fr (F.f xs) with e | ⟨_, e⟩ <;> rw [e] <;> simp
    rw [List.append_nil, q7w ho] at k
    exact q49 h1 hval k
  · have hne : ¬ ys.length = 0 := by omega
    have hfne : F.f ys ≠ [] := F.ne (by rintro rfl; simp at hy0)
    rcases q2r nb F.sz fr (F.f xs) with e | ⟨e0, e⟩
    · have hupd : aop P (evT G T) σ o.op = some (.upd (σ.set id (some (.arr (F.f xs ++ F.f ys) F.sz fr))) (c1 (.own id (F.f xs ++ F.f ys).length 0 (xs.length + ys.length)))) := by
        rw [h2, key, e]
        simp only
        rw [if_neg hne, if_pos (by simp only [true_and]; exact ⟨(F.length xs).symm, hfr, hb1, hb2⟩)]
      refine qb0 h1 hupd ?_
      have e2 : arO nb F.sz fr (F.f (xs ++ ys)) = .arr (F.f xs ++ F.f ys) F.sz fr := by
        rw [F.append]
        cases nb with
        | false => rfl
        | true => exact gr_ne (by simp [hfne])
      rw [e2] at k
      unfold vO at k
      rw [F.append, List.length_append (as := xs)] at k
      exact k
    · have hxs := q7l F e0
      subst hxs
      have hfr0 : fr = 0 := by rw [F.nil] at hfr; simpa using hfr
      subst hfr0
      have hupd : aop P (evT G T) σ o.op = some (.upd (σ.set id (some (.arr (F.f ys) F.sz 0))) (c1 (.own id (F.f ys).length 0 ys.length))) := by
        rw [h2, key, e]
        simp only
        rw [if_neg hne, if_pos (by simp only [List.length_nil, true_and]; exact ⟨by simpa using hb1, by simpa using hb2⟩)]
      refine qb0 h1 hupd ?_
      have e2 : arO nb F.sz 0 (F.f ([] ++ ys)) = .arr (F.f ys) F.sz 0 := by
        rw [List.nil_append]
        cases nb with
        | false => rfl
        | true => exact gr_ne hfne
      rw [e2, List.nil_append] at k
      exact k
def qb8 (P:Program) (G:Nat→Option (List PV)) (ops:Array Oper) (l:List Oper) (T:List TV):Option (AC×Option Tmp) :=
 (hd ops l T).bind fun o=>match o.op with
 | .call { callee:=.builtin .len,args,argTypes }=>match args.toList,argTypes.toList with
  | [x],[t]=>match P.underlying t,q11 (evT G T x) with
   | some (.slice _),some c=>some (c,o.dst)
   | _,_=>none
  | _,_=>none
 | _=>none
theorem qsh {xs:List α} {nb:Bool} {id fr:Nat} {d:Option Tmp} (h:qb8 P G ops l T=some (vO F id xs,d)) (ho:σ[id]?=some (some (arO nb F.sz fr (F.f xs))))
  (k:asqX D E E0 P G ops l.tail (putT T d (c1 (vi (xs.length:Int)))) σ R):asqX D E E0 P G ops l T σ R:=by
 unfold qb8 at h
 simp only[Option.bind_eq_some_iff]at h
 obtain ⟨o,ho',h⟩:=h
 split at h
 ·rename_i args tys e
  split at h
  ·rename_i x t e1 e2
   split at h
   ·rename_i et c h1 h2
    simp at h
    obtain ⟨rfl,rfl⟩:=h
    refine q49 ho' (v:=c1 (vi (xs.length:Int))) ?_ k
    rw[e]
    simp only[aop,e1,e2]
    unfold q89
    simp only[h1,h2,vO,q7e F ho]
    rcases q2r nb F.sz fr (F.f xs) with e | ⟨e0,e⟩
    ·rw[e]; rfl
    ·rw[e]; simp[q7l F e0,Abs.sc]
   ·cases h
  ·cases h
 ·cases h
def qb1 (P:Program) (G:Nat→Option (List PV)) (ops:Array Oper) (l:List Oper) (T:List TV):Option (AC×Nat×Int×Option Tmp) :=
 (hd ops l T).bind fun o=>match o.op with
 | .indexAddr t x i=>match q11 (evT G T x),elem? P t,intOf? (evT G T i) with
  | some c,some (_,sz,_),some iv=>some (c,sz,iv,o.dst)
  | _,_,_=>none
 | _=>none
theorem qrv {xs:List α} {x:α} {nb:Bool} {id fr:Nat} {i:Int} {d:Option Tmp} (hx:idx xs i=some x) (h:qb1 P G ops l T=some (vO F id xs,F.sz,i,d)) (ho:σ[id]?=some (some (arO nb F.sz fr (F.f xs))))
  (k:asqX D E E0 P G ops l.tail (putT T d (c1 (.ptr id (F.f xs).length (i.toNat*F.sz)))) σ R):asqX D E E0 P G ops l T σ R:=by
 unfold qb1 at h
 simp only[Option.bind_eq_some_iff]at h
 obtain ⟨o,ho',h⟩:=h
 split at h
 ·rename_i t x' i' e
  split at h
  ·rename_i c e0 sz by_ iv h1 h2 h3
   simp at h
   obtain ⟨rfl,rfl,rfl,rfl⟩:=h
   obtain ⟨g1,g2,g3⟩:=F.idx hx
   refine q49 ho' (v:=c1 (.ptr id (F.f xs).length (iv.toNat*F.sz))) ?_ k
   rw[e]
   simp only[aop,h3,Option.bind_some]
   unfold q6r
   simp only[h1,vO,h2,q7e F ho]
   rcases q2r nb F.sz fr (F.f xs) with e | ⟨e0,e⟩
   ·rw[e]
    simp only
    rw[if_pos (by simp only[true_and]; exact ⟨F.pos,g1,g2⟩)]
    simp
   ·have:=q7l F e0
    subst this
    simp at g2
    omega
  ·cases h
 ·cases h
def q7f (P:Program) (G:Nat→Option (List PV)) (ops:Array Oper) (l:List Oper) (T:List TV):Option (AC×Nat×Bool×Option Tmp) :=
 (hd ops l T).bind fun o=>match o.op with
 | .load t a=>match q11 (evT G T a),size? P t,isAgg? P t with
  | some c,some n,some ag=>some (c,n,ag,o.dst)
  | _,_,_=>none
 | _=>none
theorem qst {xs:List α} {x:α} {nb:Bool} {id fr:Nat} {i:Int} {ag:Bool} {d:Option Tmp} {v:AV} (hx:idx xs i=some x) (h:q7f P G ops l T=some (.ptr id (F.f xs).length (i.toNat*F.sz),F.sz,ag,d)) (ho:σ[id]?=some (some (arO nb F.sz fr (F.f xs))))
  (hv:rd ((F.f xs).map .pv) (i.toNat*F.sz) F.sz ag=some v)
  (k:asqX D E E0 P G ops l.tail (putT T d (.one v)) σ R):asqX D E E0 P G ops l T σ R:=by
 unfold q7f at h
 simp only[Option.bind_eq_some_iff]at h
 obtain ⟨o,ho',h⟩:=h
 split at h
 ·rename_i t a e
  split at h
  ·rename_i c n ag' h1 h2 h3
   simp at h
   obtain ⟨rfl,rfl,rfl,rfl⟩:=h
   obtain ⟨g1,g2,g3⟩:=F.idx hx
   refine q49 ho' (v:=.one v) ?_ k
   rw[e]
   simp only[aop,h1,h2,h3,q7e F ho]
   rcases q2r nb F.sz fr (F.f xs) with e | ⟨e0,e⟩
   ·rw[e]; simp only[AObj.cells,hv,Option.map_some]
   ·have:=q7l F e0
    subst this
    simp at g2
    omega
  ·cases h
 ·cases h
theorem qss {xs:List α} {x:α} {p:PV} {nb:Bool} {id fr:Nat} {i:Int} {d:Option Tmp} (hx:idx xs i=some x) (hp:F.c x=[p]) (h:q7f P G ops l T=some (.ptr id (F.f xs).length (i.toNat*F.sz),F.sz,false,d)) (ho:σ[id]?=some (some (arO nb F.sz fr (F.f xs))))
  (k:asqX D E E0 P G ops l.tail (putT T d (c1 (.pv p))) σ R):asqX D E E0 P G ops l T σ R:=by
 obtain ⟨g1,g2,g3⟩:=F.idx hx
 refine qst F hx h ho ?_ k
 unfold rd
 have:=congrArg (fun l=>l[0]?) g3
 simp[hp]at this
 simp[this]
def q79 (ks:List Nat):Nat→List TV→List TV
 | _,[]=>[]
 | i,t::r=>(bif ks.any (Nat.beq i) then t else .one (.cell .any))::q79 ks (i+1) r
def q78 (ks:List Nat) (T:List TV):List TV:=q79 ks 0 T
theorem qhh (i x:Nat):(i == x)=Nat.beq i x:=by rw[Bool.eq_iff_iff]; simp[Nat.beq_eq]
theorem qk2 (ks:List Nat):∀ (T:List TV) (i j:Nat),(q79 ks i T)[j]?=T[j]?.map fun t=>if ks.contains (i+j) then t else .one (.cell .any)
 | [],i,j=>by simp[q79]
 | t::r,i,0=>by
  have:ks.any (Nat.beq i)=ks.contains i:=by
   rw[List.contains_eq_any_beq]
   congr 1
   funext x
   exact (qhh i x).symm
  simp[q79,this]
 | t::r,i,j+1=>by
  have:=qk2 ks r (i+1) j
  simp only[q79,List.getElem?_cons_succ]
  rw[this,show i+1+j=i+(j+1) by omega]
theorem qk1 (ks:List Nat) (T:List TV):q78 ks T=q5i ks T:=by
 apply List.ext_getElem?
 intro j
 unfold q78 q5i
 rw[qk2]
 simp
theorem qon (ks:List Nat) {c:Code} (hT:q78 ks T=T') (h:awpL E E0 P m (c::r) T' σ K):awpL E E0 P m (c::r) T σ K:=by
 subst hT; rw[qk1]at h; exact qgt ks h
theorem qf6 {X:Cx} {w:World} (hi:Inv E E0 X w) (hn:∀ id,¬ X.pend id) {σ1:Sto} (sz:Nat) (hl:σ1.length=X.σ.length)
  (hs:∀ (id:Nat) (ob:AObj),σ1[id]?=some (some ob)→∃ ob0,X.σ[id]?=some (some ob0)∧ob0.ver=ob.ver∧ob.kind=ob0.kind∧ob0.cells.length=ob.cells.length∧ob0.fr=ob.fr) :
  Ext X w { X with σ:=σ1++[some (.nilarr sz)],loc:=fun i=>if i=X.σ.length then none else X.loc i } w:=by
 have key:∀ (id:Nat) (ob:AObj),id < X.σ.length→(σ1++[some (.nilarr sz)])[id]?=some (some ob)→∃ ob0,X.σ[id]?=some (some ob0)∧ob0.ver=ob.ver∧ob.kind=ob0.kind∧ob0.cells.length=ob.cells.length∧ob0.fr=ob.fr:=fun id ob hid e =>
  hs id ob (by rwa [List.getElem?_append_left (by omega)]at e)
 refine ⟨rfl,rfl,BelowO.refl _ _ _,by simp[hl],fun b o h=>⟨?_,rfl⟩,fun _ _ h=>h,fun id ob' hid _ e=>?_,fun _ _ _ _ h=>h,rfl⟩
 ·rcases h with h | ⟨h1,h2,h3⟩
  ·exact .inl h
  ·refine .inr ⟨h1,h2,fun id ob l e hp hl' hb=>?_⟩
   by_cases hid:id=X.σ.length
   ·subst hid; simp at hl'
   ·have hlt:id < X.σ.length:=by
     rcases Nat.lt_or_ge id (σ1++[some (AObj.nilarr sz)]).length with k | k
     ·simp[hl]at k; omega
     ·rw[List.getElem?_eq_none k]at e; cases e
    obtain ⟨ob0,e0,_,_,_,e1⟩:=key id ob hlt e
    simp only[if_neg hid]at hl'
    rw[← e1]
    exact h3 id ob0 l e0 (hn id) hl' hb
 ·obtain ⟨ob0,e0,e1,e2,e3,_⟩:=key id ob' hid e
  exact ⟨ob0,e0,by omega,fun _=>⟨by simp only[if_neg (Nat.ne_of_lt hid)],e2,e3⟩⟩
theorem qln {X:Cx} {w:World} (hi:Inv E E0 X w) (hn:∀ id,¬ X.pend id) {σ1:Sto} (sz:Nat) (hl:σ1.length=X.σ.length)
  (hs:∀ (id:Nat) (ob:AObj),σ1[id]?=some (some ob)→∃ ob0,X.σ[id]?=some (some ob0)∧ob0.ver=ob.ver∧ob.kind=ob0.kind∧ob0.cells.length=ob.cells.length∧ob0.fr=ob.fr∧∀ (w':World) (X':Cx),Ext X w X' w'→(X'.σ[X.σ.length]?=some (some (.nilarr sz))∧¬ X'.pend X.σ.length)→∀ cs,q2l X' w' ob0 cs→q2l X' w' ob cs) (hm:∀ (id:Nat) (ag:Bool) (es:List (ByteArray×List PV)),σ1[id]?=some (some (.mp ag es))→X.σ[id]?=some (some (.mp ag es)):=by exact fun _ _ _ h=>h) :
  Inv E E0 { X with σ:=σ1++[some (.nilarr sz)],loc:=fun i=>if i=X.σ.length then none else X.loc i } w:=by
 have hx:=qf6 hi hn sz hl fun id ob e=>by obtain ⟨ob0,e0,e1,e2,e3,e4,_⟩:=hs id ob e; exact ⟨ob0,e0,e1,e2,e3,e4⟩
 have split:∀ (id:Nat) (ob:AObj),(σ1++[some (.nilarr sz)])[id]?=some (some ob)→(id < X.σ.length∧σ1[id]?=some (some ob))∨(id=X.σ.length∧ob=.nilarr sz):=by
  intro id ob e
  rcases q4t e with ⟨h1,h2⟩ | ⟨h1,h2⟩
  ·exact .inl ⟨by omega,h2⟩
  ·exact .inr ⟨by omega,by simpa using h2⟩
 refine ⟨hi.hs,hi.b0,hi.e0,hi.env,fun id ob e _ hbr=>?_,fun id id' ob ob' l l' e e' _ _ g g' hb=>?_,hi.glob,fun id ob e _ hbr=>?_,hi.maps.carry hx (fun _ _ _ _ h=>h) fun id ag es e _=>?_,hi.low⟩
 ·rcases split id ob e with ⟨h1,h2⟩ | ⟨_,rfl⟩
  ·obtain ⟨ob0,e0,_,e2,e3,_,e5⟩:=hs id ob h2
   have hbr0:ob0.bare=false:=by cases ob <;> cases ob0 <;> simp[AObj.kind]at e2 <;> first | rfl | exact hbr
   obtain ⟨l,hl',hB,cs,Ty,hg,hz,hr⟩:=hi.ob id ob0 e0 (hn id) hbr0
   refine ⟨l,by simp only[if_neg (Nat.ne_of_lt h1)]; exact hl',hB.kind e2 fun _=>e3.symm,cs,Ty,hg,hz,e5 w _ hx ⟨by simp[hl],hn _⟩ cs ?_⟩
   exact fun i c hc=>(hr i c hc).imp fun u hu=>⟨hu.1,CRep.ext hx hu.2⟩
  ·cases hbr
 ·rcases split id ob e with ⟨h1,h2⟩ | ⟨rfl,rfl⟩
  ·rcases split id' ob' e' with ⟨k1,k2⟩ | ⟨rfl,rfl⟩
   ·simp only[if_neg (Nat.ne_of_lt h1)]at g
    simp only[if_neg (Nat.ne_of_lt k1)]at g'
    obtain ⟨ob0,e0,_⟩:=hs id ob h2
    obtain ⟨ob1,e1,_⟩:=hs id' ob' k2
    exact hi.inj id id' ob0 ob1 l l' e0 e1 (hn id) (hn id') g g' hb
   ·simp at g'
  ·simp at g
 ·rcases split id ob e with ⟨h1,h2⟩ | ⟨rfl,rfl⟩
  ·obtain ⟨ob0,e0,_,e2,_⟩:=hs id ob h2
   have hbr0:ob0.bare=true:=by cases ob <;> cases ob0 <;> simp[AObj.kind]at e2 <;> first | rfl | exact hbr
   simp only[if_neg (Nat.ne_of_lt h1)]
   exact hi.bare id ob0 e0 (hn id) hbr0
  ·simp
 ·rcases split id _ e with ⟨_,h2⟩ | ⟨_,h2⟩
  ·exact ⟨hm id ag es h2,hn id⟩
  ·cases h2
theorem qm1 {X':Cx} {w':World} {id sz:Nat} {u:Value} (h:CRep X' w' vN u) (he:X'.σ[id]?=some (some (.nilarr sz))) (hp:¬ X'.pend id):CRep X' w' (.own id 0 0 0) u:=by
 have hu:u=.slice none 0 0:=by have h':PRep X'.prot w' (.sc (.slice none 0 0)) u:=h; unfold PRep at h'; exact h'.1
 subst hu
 have hlt:id < X'.σ.length:=by
  rcases Nat.lt_or_ge id X'.σ.length with k | k
  ·exact k
  ·rw[List.getElem?_eq_none k]at he; cases he
 refine ⟨rfl,hp,hlt,fun ob e=>?_⟩
 rw[he]at e
 obtain rfl:AObj.nilarr sz=ob:=by simpa using e
 exact ⟨Nat.zero_le _,fun _=>⟨rfl,rfl⟩⟩
theorem L_ownT (k sz:Nat) {c:Code} (hk:T[k]?=some (c1 vN)) (hT:T.set k (c1 (.own σ.length 0 0 0))=T') (hσ:σ++[some (.nilarr sz)]=σ')
  (h:awpL E E0 P m (c::r) T' σ' K):awpL E E0 P m (c::r) T σ K:=by
 subst hT hσ
 intro X w a h1 h2 h3 h4 h5
 subst h1
 have hs:∀ (id:Nat) (ob:AObj),X.σ[id]?=some (some ob)→∃ ob0,X.σ[id]?=some (some ob0)∧ob0.ver=ob.ver∧ob.kind=ob0.kind∧ob0.cells.length=ob.cells.length∧ob0.fr=ob.fr∧∀ (w':World) (X':Cx),Ext X w X' w'→(X'.σ[X.σ.length]?=some (some (.nilarr sz))∧¬ X'.pend X.σ.length)→∀ cs,q2l X' w' ob0 cs→q2l X' w' ob cs :=
  fun id ob e=>⟨ob,e,rfl,rfl,rfl,rfl,fun _ _ _ _ _ h=>h⟩
 have hx:=qf6 h4 h3 sz rfl fun id ob e=>⟨ob,e,rfl,rfl,rfl,rfl⟩
 have hi:=qln h4 h3 sz rfl hs
 have:=h { X with σ:=X.σ++[some (.nilarr sz)],loc:=fun i=>if i=X.σ.length then none else X.loc i } w a rfl (by simp; omega) h3 hi ⟨by simp[h5.len],fun i t u e1 e2=>?_,h5.defers⟩
 ·exact wp_mono this fun _ _ _ q=>q5q (hx.b h3 h2) q
 ·rw[List.getElem?_set]at e1
  split at e1
  ·rename_i hki
   subst hki
   split at e1
   ·simp at e1; subst e1
    have h0:=TRep.ext hx (h5.rep k _ u hk e2)
    exact qm1 (w':=w) (id:=X.σ.length) (sz:=sz) h0 (by simp) (h3 _)
   ·cases e1
  ·exact TRep.ext hx (h5.rep i t u e1 e2)
theorem L_ownσ (b j sz:Nat) {cs:List AC} {c:Code} (hk:σ[b]?=some (some (.box cs))) (hj:cs[j]?=some vN) (hσ:σ.set b (some (.box (cs.set j (.own σ.length 0 0 0))))++[some (.nilarr sz)]=σ')
  (h:awpL E E0 P m (c::r) T σ' K):awpL E E0 P m (c::r) T σ K:=by
 subst hσ
 intro X w a h1 h2 h3 h4 h5
 subst h1
 have hs:∀ (id:Nat) (ob:AObj),(X.σ.set b (some (.box (cs.set j (.own X.σ.length 0 0 0)))))[id]?=some (some ob)→∃ ob0,X.σ[id]?=some (some ob0)∧ob0.ver=ob.ver∧ob.kind=ob0.kind∧ob0.cells.length=ob.cells.length∧ob0.fr=ob.fr∧∀ (w':World) (X':Cx),Ext X w X' w'→(X'.σ[X.σ.length]?=some (some (.nilarr sz))∧¬ X'.pend X.σ.length)→∀ cs,q2l X' w' ob0 cs→q2l X' w' ob cs:=by
  intro id ob e
  rcases q1p e with ⟨rfl,e1⟩ | ⟨_,e1⟩
  ·simp at e1; subst e1
   refine ⟨.box cs,hk,rfl,rfl,by simp[AObj.cells],rfl,fun w' X' _ hX us hr i c' hc=>?_⟩
   simp only[AObj.cells,List.getElem?_set]at hc
   split at hc
   ·rename_i hij
    subst hij
    split at hc
    ·simp at hc; subst hc
     obtain ⟨u,hu,hcr⟩:=hr j vN hj
     exact ⟨u,hu,qm1 hcr hX.1 hX.2⟩
    ·cases hc
   ·exact hr i c' hc
  ·exact ⟨ob,e1,rfl,rfl,rfl,rfl,fun _ _ _ _ _ h=>h⟩
 have hx:=qf6 h4 h3 sz (σ1:=X.σ.set b (some (.box (cs.set j (.own X.σ.length 0 0 0))))) (by simp) fun id ob e=>by obtain ⟨ob0,e0,e1,e2,e3,e4,_⟩:=hs id ob e; exact ⟨ob0,e0,e1,e2,e3,e4⟩
 have hi:=qln h4 h3 sz (σ1:=X.σ.set b (some (.box (cs.set j (.own X.σ.length 0 0 0))))) (by simp) hs fun id ag es e=>by
  rcases q1p e with ⟨_,e1⟩ | ⟨_,e1⟩
  ·simp at e1
  ·exact e1
 have:=h { X with σ:=X.σ.set b (some (.box (cs.set j (.own X.σ.length 0 0 0))))++[some (.nilarr sz)],loc:=fun i=>if i=X.σ.length then none else X.loc i } w a rfl (by simp; omega) h3 hi ⟨h5.len,fun i t u e1 e2=>TRep.ext hx (h5.rep i t u e1 e2),h5.defers⟩
 exact wp_mono this fun _ _ _ q=>q5q (hx.b h3 h2) q
end Abs
end Go.Proofs.YtpidpioifnnllaaGreatDoor
namespace Go.Proofs.YtpidpioifnnllaaGreatDoor
set_option linter.unusedSimpArgs false
set_option linter.unusedVariables false
namespace Abs
open Go.RowKit
variable {E : World → Prop} {E0 : Nat} {P : Program} {G : Nat → Option (List PV)} {m : Nat} {T T' : List TV} {σ σ' : Sto} {K : Ex → List TV → Sto → Prop} {r : List Code}
variable {α : Type} (F : Fl α) {D : Bool} {ops : Array Oper} {l : List Oper} {R : List TV → Sto → Prop}
def Conv (E:World→Prop) (E0:Nat) (σ:Sto) (c c':AC):Prop:=∀ (X:Cx) (w:World) (u:Value),X.σ=σ→Inv E E0 X w→CRep X w c u→CRep X w c' u
theorem qok (k:Nat) {c c':AC} {d:Code} (hk:T[k]?=some (c1 c)) (hc:Conv E E0 σ c c') (h:awpL E E0 P m (d::r) (T.set k (c1 c')) σ K):awpL E E0 P m (d::r) T σ K:=by
 intro X w a h1 h2 h3 h4 h5
 refine h X w a h1 h2 h3 h4 ⟨by simp[h5.len],fun i t u e1 e2=>?_,h5.defers⟩
 rw[List.getElem?_set]at e1
 split at e1
 ·rename_i hki
  subst hki
  split at e1
  ·simp at e1; subst e1
   exact hc X w u h1 h4 (h5.rep k _ u hk e2)
  ·cases e1
 ·exact h5.rep i t u e1 e2
theorem qol (b j:Nat) {cs:List AC} {c c':AC} {d:Code} (hk:σ[b]?=some (some (.box cs))) (hj:cs[j]?=some c) (hc:Conv E E0 σ c c') (h:awpL E E0 P m (d::r) T (σ.set b (some (.box (cs.set j c')))) K):awpL E E0 P m (d::r) T σ K:=by
 intro X w a h1 h2 h3 h4 h5
 subst h1
 obtain ⟨l,hl,hB,us,Ty,hg,hz,hr⟩:=h4.ob b _ hk (h3 b) rfl
 have hx:Ext X w { X with σ:=X.σ.set b (some (.box (cs.set j c'))) } w :=
  q85 h4 hk (h3 b) hl (Nat.le_refl _) rfl (fun _=>by simp[AObj.cells]) (Nat.le_refl _) (BelowO.refl _ _ _) (fun _ _ _=>rfl)
 have hi:=q86 (ob':=.box (cs.set j c')) h4 hk (h3 b) hl rfl hx h4.env rfl (fun _ _=>rfl) us Ty hg hz (fun i d hd=>by
  simp only[AObj.cells,List.getElem?_set]at hd
  split at hd
  ·rename_i hji
   subst hji
   split at hd
   ·simp at hd; subst hd
    obtain ⟨u,hu,hcr⟩:=hr j c hj
    exact ⟨u,hu,CRep.ext hx (hc X w u rfl h4 hcr)⟩
   ·cases hd
  ·obtain ⟨u,hu,hcr⟩:=hr i d hd
   exact ⟨u,hu,CRep.ext hx hcr⟩)
 have:=h { X with σ:=X.σ.set b (some (.box (cs.set j c'))) } w a rfl (by simp; exact h2) h3 hi ⟨h5.len,fun i t u e1 e2=>TRep.ext hx (h5.rep i t u e1 e2),h5.defers⟩
 exact wp_mono this fun _ _ _ q=>q5q (hx.b h3 h2) q
theorem q2o {nb:Bool} {id:Nat} {xs:List α} (ho:σ[id]?=some (some (arO nb F.sz (F.f xs).length (F.f xs)))):Conv E E0 σ (vO F id xs) (vL F xs):=by
 intro X w u h1 hi hc
 subst h1
 refine qe1 hi (qe4 F ho) hc ?_
 intro id' ver off len e cells sz fr e'
 unfold vO at e
 simp at e
 obtain ⟨rfl,_⟩:=e
 rw[ho]at e'
 rcases q2r nb F.sz (F.f xs).length (F.f xs) with q | ⟨_,q⟩
 ·rw[q]at e'
  simp at e'
  obtain ⟨rfl,_,rfl⟩:=e'
  exact Nat.le_refl _
 ·rw[q]at e'
  simp at e'
theorem qic:Conv E E0 σ vN (vL F []):=by
 intro X w u _ _ hc
 have h':PRep X.prot w (.sc (.slice none 0 0)) u:=hc
 show PRep X.prot w (.sl false 0 (F.f [])) u
 unfold PRep at h' ⊢
 exact .inl ⟨h'.1,rfl,F.nil⟩
theorem Fl.one (x:α):F.f [x]=F.c x:=by rw[F.cons,F.nil,List.append_nil]
theorem Fl.two (x y:α):F.f [x,y]=F.c x++F.c y:=by rw[F.cons,F.one]
theorem Fl.three (x y z:α):F.f [x,y,z]=F.c x++(F.c y++F.c z):=by rw[F.cons,F.two]
theorem L_mark (id:Nat) {nb:Bool} {sz fr:Nat} {cs:List PV} {d:Code} (ho:σ[id]?=some (some (arO nb sz fr cs))) (hfr:fr≤cs.length) (h:awpL E E0 P m (d::r) T (σ.set id (some (arO nb sz cs.length cs))) K):awpL E E0 P m (d::r) T σ K:=by
 intro X w a h1 h2 h3 h4 h5
 subst h1
 rcases q2r nb sz fr cs with e | ⟨e0,e⟩
 ·have e':arO nb sz cs.length cs=.arr cs sz cs.length:=by
   cases nb with
   | false=>rfl
   | true =>
    cases cs with
    | nil=>cases e
    | cons _ _=>rfl
  rw[e]at ho
  rw[e']at h
  obtain ⟨l,hl,hB,us,Ty,hg,hz,hr⟩:=h4.ob id _ ho (h3 id) rfl
  have hx:Ext X w { X with σ:=X.σ.set id (some (.arr cs sz cs.length)) } w :=
   q85 h4 ho (h3 id) hl (Nat.le_refl _) rfl (fun _=>rfl) hfr (BelowO.refl _ _ _) (fun _ _ _=>rfl)
  have hi:=q86 (ob':=.arr cs sz cs.length) h4 ho (h3 id) hl rfl hx h4.env rfl (fun _ _=>rfl) us Ty hg hz (fun i d hd=>(hr i d hd).imp fun u hu=>⟨hu.1,CRep.ext hx hu.2⟩)
  have:=h { X with σ:=X.σ.set id (some (.arr cs sz cs.length)) } w a rfl (by simp; exact h2) h3 hi ⟨h5.len,fun i t u e1 e2=>TRep.ext hx (h5.rep i t u e1 e2),h5.defers⟩
  exact wp_mono this fun _ _ _ q=>q5q (hx.b h3 h2) q
 ·have e':arO nb sz cs.length cs=arO nb sz fr cs:=by
   subst e0
   cases nb with
   | false=>cases e
   | true=>rfl
  rw[e',q7w ho]at h
  exact h X w a rfl h2 h3 h4 h5
def q7b (ids:List Nat):Nat→Sto→Sto
 | _,[]=>[]
 | i,o::r=>(bif ids.any (Nat.beq i) then none else o)::q7b ids (i+1) r
def q92 (ids:List Nat) (σ:Sto):Sto:=q7b ids 0 σ
theorem qkb (ids:List Nat):∀ (σ:Sto) (i j:Nat),(q7b ids i σ)[j]?=σ[j]?.map fun t=>if ids.contains (i+j) then none else t
 | [],i,j=>by simp[q7b]
 | t::r,i,0=>by
  have:ids.any (Nat.beq i)=ids.contains i:=by
   rw[List.contains_eq_any_beq]
   congr 1
   funext x
   exact (qhh i x).symm
  simp[q7b,this]
 | t::r,i,j+1=>by
  have:=qkb ids r (i+1) j
  simp only[q7b,List.getElem?_cons_succ]
  rw[this,show i+1+j=i+(j+1) by omega]
theorem qka (ids:List Nat) (σ:Sto):q92 ids σ=killσ ids σ:=by
 apply List.ext_getElem?
 intro j
 unfold q92 killσ
 rw[qkb]
 simp
theorem ql (k:Nat) (nb:Bool) (sz fr:Nat) (cs:List PV):q4x k (some (arO nb sz fr cs))=true:=by
 rcases q2r nb sz fr cs with e | ⟨_,e⟩ <;> rw[e] <;> rfl
def q88 (k:Nat):Sto→Prop
 | []=>True
 | o::r=>q4x k o=true∧q88 k r
theorem qo1 {k:Nat}:∀ {σ:Sto},q88 k σ→σ.all (q4x k)=true
 | [],_=>rfl
 | o::r,h=>by rw[List.all_cons,h.1,qo1 h.2]; rfl
theorem qgs (ks ids:List Nat) (k:Nat) {c:Code} (hT:q78 ks T=T') (hσ:(q92 ids σ).take k=σ') (hm:m≤k) (hu:T'.all (TV.under k)=true) (hs:q88 k σ') (h:awpL E E0 P m (c::r) T' σ' K):awpL E E0 P m (c::r) T σ K:=by
 rw[qk1]at hT
 rw[qka]at hσ
 exact L_back ks ids k h hT hσ hm hu (qo1 hs)
variable {S O : Type}
def q2z (body:S→Option (S⊕O)):Nat→S→Option O
 | 0,_=>none
 | n+1,s=>match body s with
  | none=>none
  | some (.inl s')=>q2z body n s'
  | some (.inr q)=>some q
theorem qeg {body:S→Option (S⊕O)}:∀ {n k:Nat} {s:S} {q:O},q2z body n s=some q→n≤k→q2z body k s=some q
 | 0,_,_,_,h,_=>by cases h
 | n+1,0,_,_,_,h=>by omega
 | n+1,k+1,s,q,h,hk=>by
  unfold q2z at h ⊢
  split at h
  ·cases h
  ·exact qeg h (by omega)
  ·exact h
open Classical in
/-- What a loop comes to,if it ends. -/
noncomputable def qf (body:S→Option (S⊕O)) (s:S):Option O:=if h:∃ n,(q2z body n s).isSome=true then q2z body (Classical.choose h) s else none
theorem qey {body:S→Option (S⊕O)} {s:S} {q:O} (h:qf body s=some q):∃ n,q2z body n s=some q:=by
 unfold qf at h
 split at h
 ·exact ⟨_,h⟩
 ·cases h
theorem qef {body:S→Option (S⊕O)} {s:S} {q:O} {n:Nat} (h:q2z body n s=some q):qf body s=some q:=by
 have hex:∃ n,(q2z body n s).isSome=true:=⟨n,by rw[h]; rfl⟩
 unfold qf
 rw[dif_pos hex]
 have hs:=Classical.choose_spec hex
 cases hq:q2z body (Classical.choose hex) s with
 | none=>rw[hq]at hs; cases hs
 | some q' =>
  have a:=qeg hq (Nat.le_max_left (Classical.choose hex) n)
  have b:=qeg h (Nat.le_max_right (Classical.choose hex) n)
  rw[a]at b; exact b
theorem q1v {body:S→Option (S⊕O)} {s s':S} (h:body s=some (.inl s')):qf body s=qf body s':=by
 apply Option.ext
 intro q
 constructor
 ·intro hq
  obtain ⟨n,hn⟩:=qey hq
  cases n with
  | zero=>cases hn
  | succ n=>unfold q2z at hn; rw[h]at hn; exact qef hn
 ·intro hq
  obtain ⟨n,hn⟩:=qey hq
  refine qef (n:=n+1) ?_
  unfold q2z; rw[h]; exact hn
theorem qs {body:S→Option (S⊕O)} {s:S} {q:O} (h:body s=some (.inr q)):qf body s=some q:=qef (n:=1) (by unfold q2z; rw[h])
theorem qoo (body:S→Option (S⊕O)) (FT:S→List TV) (FS:S→Sto) {b:Code} {o:O}
  (step:∀ (s:S) (x:S⊕O),body s=some x→(∀ s',x=.inl s'→awpL E E0 P m (.loop b::r) (FT s') (FS s') K)→(∀ q,x=.inr q→q=o)→awpL E E0 P m (b::.loop b::r) (FT s) (FS s) K)
  {s0:S} (h:qf body s0=some o):awpL E E0 P m (.loop b::r) (FT s0) (FS s0) K:=by
 obtain ⟨n,hn⟩:=qey h
 clear h
 induction n generalizing s0 with
 | zero=>cases hn
 | succ n ih =>
  unfold q2z at hn
  split at hn
  ·cases hn
  ·rename_i s' hb
   refine qcm (step s0 _ hb (fun s1 e=>?_) (fun q e=>by cases e))
   simp at e; subst e
   exact ih hn
  ·rename_i q hb
   refine qcm (step s0 _ hb (fun s1 e=>by cases e) (fun q' e=>?_))
   simp at e hn; rw[← e,hn]
theorem not_f {b:Bool} (h:(!b)=false):b=true:=by cases b <;> simp_all
theorem vL_one (x:α):vL F [x]=.pv (.sl false 1 (F.c x)):=by simp[pL,F.one]
theorem vL_two (x y:α):vL F [x,y]=.pv (.sl false 2 (F.c x++F.c y)):=by simp[pL,F.two]
theorem qwt (x y z:α):vL F [x,y,z]=.pv (.sl false 3 (F.c x++(F.c y++F.c z))):=by simp[pL,F.three]
abbrev eS:ByteArray:=⟨#[]⟩
def zV:List AC:=[vi 0,vi 0,vS eS,vN,vN]
theorem parts (b:Bool) (Tt Tf:List TV) (h1:b=true→T=Tt) (h2:b=false→T=Tf) (k1:b=true→asqX D E E0 P G ops l Tt σ R) (k2:b=false→asqX D E E0 P G ops l Tf σ R):asqX D E E0 P G ops l T σ R:=by
 cases b with
 | true=>rw[h1 rfl]; exact k1 rfl
 | false=>rw[h2 rfl]; exact k2 rfl
end Abs
end Go.Proofs.YtpidpioifnnllaaGreatDoor
namespace Go.Proofs.YtpidpioifnnllaaGreatDoor
set_option linter.unusedSimpArgs false
set_option linter.unusedVariables false
namespace Abs
open Go.RowKit
variable {E : World → Prop} {E0 : Nat} {P : Program} {G : Nat → Option (List PV)} {m : Nat} {T T' : List TV} {σ σ' : Sto} {K : Ex → List TV → Sto → Prop} {r : List Code}
variable {α : Type} (F : Fl α) {D : Bool} {ops : Array Oper} {l : List Oper} {R : List TV → Sto → Prop}
def mkl {α:Type} (by_:Nat) (n:Int) (z:α):Option (List α):=if 0≤n∧n.toNat*by_≤140737488355328∧n≤9223372036854775807 then some (List.replicate n.toNat z) else none
def mkc (by_:Nat) (n:Int):Option Unit:=if 0≤n∧n.toNat*by_≤140737488355328∧n≤9223372036854775807 then some () else none
def q7i (P:Program) (G:Nat→Option (List PV)) (ops:Array Oper) (l:List Oper) (T:List TV):Option (Int×Int×List AC×Nat×Nat×Option Tmp) :=
 (hd ops l T).bind fun o=>match o.op with
 | .makeSlice t n c=>match elem? P t,intOf? (evT G T n),intOf? (evT G T c) with
  | some (e,sz,by_),some n,some c=>match zero? P e with
   | some z=>bif Nat.beq z.cells.length sz && z.cells.all AC.ok && Nat.blt 0 sz then some (n,c,z.cells,sz,by_,o.dst) else none
   | none=>none
  | _,_,_=>none
 | _=>none
theorem qf0 {n c:Int} {zs:List AC} {sz by_:Nat} {d:Option Tmp} (h:q7i P G ops l T=some (n,c,zs,sz,by_,d)) :
  ∃ (o:Oper) (t e:TypeId) (z:AV) (x y:TV),hd ops l T=some o∧o.dst=d∧aop P (evT G T) σ o.op=q6s P t x y∧intOf? x=some n∧intOf? y=some c∧elem? P t=some (e,sz,by_)∧zero? P e=some z∧z.cells=zs∧zs.length=sz∧zs.all AC.ok=true∧0 < sz:=by
 unfold q7i at h
 simp only[Option.bind_eq_some_iff]at h
 obtain ⟨o,ho,h⟩:=h
 split at h
 ·rename_i t a b e
  split at h
  ·rename_i e' sz' by' n' c' h1 h2 h3
   split at h
   ·rename_i z hz
    cases hc:(Nat.beq z.cells.length sz' && z.cells.all AC.ok && Nat.blt 0 sz') with
    | false=>rw[hc]at h; cases h
    | true =>
     rw[hc]at h
     simp at h
     obtain ⟨rfl,rfl,rfl,rfl,rfl,rfl⟩:=h
     simp only[Bool.and_eq_true]at hc
     refine ⟨o,t,e',z,_,_,ho,rfl,?_,h2,h3,h1,hz,rfl,Nat.eq_of_beq_eq_true hc.1.1,hc.1.2,Nat.lt_of_lt_of_le (Nat.lt_succ_self _) (Nat.le_of_ble_eq_true hc.2)⟩
     rw[e]; simp only[aop]
   ·cases h
  ·cases h
 ·cases h
theorem qms (x:α):∀ n,replic (F.c x) n=F.f (List.replicate n x)
 | 0=>by simp[replic,F.nil]
 | n+1=>by rw[replic,List.replicate_succ,F.cons,qms x n]
theorem qmj:∀ l:List PV,pvs (l.map AC.pv)=some l
 | []=>rfl
 | x::r=>by simp[pvs,qmj r]
theorem mkF {x:α} {xs:List α} {n:Int} {by_:Nat} {d:Option Tmp} (hx:mkl by_ n x=some xs) (h:q7i P G ops l T=some (n,n,(F.c x).map AC.pv,F.sz,by_,d))
  (k:asqX D E E0 P G ops l.tail (putT T d (c1 (vO F σ.length xs))) (σ++[some (arO false F.sz 0 (F.f xs))]) R):asqX D E E0 P G ops l T σ R:=by
 obtain ⟨o,t,e,z,a,b,h1,rfl,h2,h3,h4,h5,h6,h7,h8,h9,h10⟩:=qf0 (σ:=σ) h
 unfold mkl at hx
 split at hx
 ·rename_i hc
  simp at hx; subst hx
  have hnew:aop P (evT G T) σ o.op=some (.new (arO false F.sz 0 (F.f (List.replicate n.toNat x))) fun id=>c1 (vO F id (List.replicate n.toNat x))):=by
   rw[h2]
   unfold q6s
   simp only[h5,h3,h4,h6]
   rw[if_pos ⟨hc.1,hc.2.1,hc.2.2,by rw[h7]; exact h8,h10,by rw[h7]; exact h9⟩]
   by_cases hn:n=0
   ·subst hn
    simp[vO,F.nil,arO]
   ·rw[if_neg hn]
    simp only[if_true,h7,qmj,Option.map_some,qms]
    simp[vO,arO]
  exact qjn h1 hnew k
 ·cases hx
theorem mk0F {n:Int} {zs:List AC} {by_:Nat} {d:Option Tmp} {u:Unit} (hx:mkc by_ n=some u) (h:q7i P G ops l T=some (0,n,zs,F.sz,by_,d))
  (k:asqX D E E0 P G ops l.tail (putT T d (c1 (vO F σ.length []))) (σ++[some (arO false F.sz 0 (F.f []))]) R):asqX D E E0 P G ops l T σ R:=by
 obtain ⟨o,t,e,z,a,b,h1,rfl,h2,h3,h4,h5,h6,h7,h8,h9,h10⟩:=qf0 (σ:=σ) h
 unfold mkc at hx
 split at hx
 ·rename_i hc
  have hnew:aop P (evT G T) σ o.op=some (.new (arO false F.sz 0 (F.f [])) fun id=>c1 (vO F id [])):=by
   rw[h2]
   unfold q6s
   simp only[h5,h3,h4,h6]
   rw[if_pos ⟨hc.1,hc.2.1,hc.2.2,by rw[h7]; exact h8,h10,by rw[h7]; exact h9⟩]
   simp[vO,F.nil,arO]
  exact qjn h1 hnew k
 ·cases hx
def upd {α:Type} (xs:List α) (i:Int) (x:α):List α:=xs.set i.toNat x
def qc3 (P:Program) (G:Nat→Option (List PV)) (ops:Array Oper) (l:List Oper) (T:List TV):Option (AC×List AC×Nat×Option Tmp) :=
 (hd ops l T).bind fun o=>match o.op with
 | .store t a x=>match q11 (evT G T a),avOf (evT G T x),size? P t with
  | some c,some v,some n=>some (c,v.cells,n,o.dst)
  | _,_,_=>none
 | _=>none
theorem Fl.set (xs:List α) (i:Nat) (x:α) (h:i < xs.length):(F.f xs).take (i*F.sz)++F.c x++(F.f xs).drop (i*F.sz+F.sz)=F.f (xs.set i x):=by
 rw[List.set_eq_take_append_cons_drop,if_pos h,F.append,F.cons,F.take,← Nat.succ_mul,F.drop,List.append_assoc]
theorem qw7 {xs:List α} {x y:α} {id:Nat} {i:Int} {cs:List AC} {d:Option Tmp} (hx:idx xs i=some x) (h:qc3 P G ops l T=some (.ptr id (F.f xs).length (i.toNat*F.sz),cs,F.sz,d)) (ho:σ[id]?=some (some (arO false F.sz 0 (F.f xs))))
  (hok:cs.all AC.ok=true) (how:cs.any AC.owns=false) (hf:frzL σ cs=some (F.c y))
  (k:asqX false E E0 P G ops l.tail (putT T d qw) (σ.set id (some (arO false F.sz 0 (F.f (upd xs i y))))) R):asqX false E E0 P G ops l T σ R:=by
 unfold qc3 at h
 simp only[Option.bind_eq_some_iff]at h
 obtain ⟨o,ho',h⟩:=h
 split at h
 ·rename_i t a x' e
  split at h
  ·rename_i c v n h1 h2 h3
   simp only[Option.some.injEq,Prod.mk.injEq]at h
   obtain ⟨rfl,rfl,rfl,rfl⟩:=h
   obtain ⟨g1,g2,g3⟩:=F.idx hx
   have hi:i.toNat < xs.length:=by omega
   have hlen:v.cells.length=F.sz:=by
    have:∀ {cs:List AC} {ps:List PV},frzL σ cs=some ps→cs.length=ps.length:=by
     intro cs
     induction cs with
     | nil=>intro ps h; simp[frzL]at h; subst h; rfl
     | cons c r ih =>
      intro ps h
      simp only[frzL,Option.bind_eq_some_iff,Option.map_eq_some_iff]at h
      obtain ⟨p,_,l,h2,rfl⟩:=h
      simp[ih h2]
    rw[this hf,F.len]
   have hb:i.toNat*F.sz+(F.c y).length≤(F.f xs).length:=by
    rw[F.length,F.len,← Nat.succ_mul]
    exact Nat.mul_le_mul_right _ (by omega)
   refine qb0 ho' (v:=qw) (σ':=σ.set id (some (arO false F.sz 0 (F.f (upd xs i y))))) ?_ k
   rw[e]
   simp only[aop,h1,h2,h3,q7e F ho]
   rw[if_pos hlen]
   unfold pokes
   rw[if_pos hok]
   simp only[arO]
   rw[if_pos ⟨Nat.zero_le _,how⟩,hf]
   simp only[Option.bind_some]
   unfold splice
   rw[if_pos hb,F.len,F.set xs i.toNat y hi]
   rfl
  ·cases h
 ·cases h
def q3j (P:Program) (G:Nat→Option (List PV)) (ops:Array Oper) (l:List Oper) (T:List TV):Option (FuncId×List AV×Option Tmp) :=
 (hd ops l T).bind fun o=>match o.op with
 | .call { callee:=.value f,args,.. }=>match q4o (evT G T f),q2m (evT G T) args.toList with
  | some (g,caps),some vs=>bif enters P g then some (g,vs++caps,o.dst) else none
  | _,_=>none
 | _=>none
theorem qhu {g:FuncId} {vs:List AV} {d:Option Tmp} (h:q3j P G ops l T=some (g,vs,d)) {eff:Eff} (ce:enters P g=true→CallEff E E0 P σ g vs eff)
  (k:asq E E0 P G ops l.tail (putT T d (effV σ eff)) (effσ σ eff) R):asqX false E E0 P G ops l T σ R:=by
 unfold q3j at h
 simp only[Option.bind_eq_some_iff]at h
 obtain ⟨o,ho,h⟩:=h
 obtain ⟨r,rfl,hw⟩:=q4u ho
 split at h
 ·rename_i f args tys e
  split at h
  ·rename_i g' caps vs' h1 h2
   cases hb:enters P g' with
   | false=>rw[hb]at h; cases h
   | true =>
    rw[hb]at h
    simp at h
    obtain ⟨rfl,rfl,rfl⟩:=h
    show asq E E0 P G ops (o::r) T σ R
    unfold asq
    rw[hw,e]
    left
    unfold OpA
    simp only[h1,h2]
    exact ⟨_,ce hb,k⟩
  ·cases h
 ·cases h
theorem qhs {g:FuncId} {vs:List AV} {d:Option Tmp} {v:Value} (h:q3j P G ops l T=some (g,vs,d)) (hp:Dies E E0 P σ g vs v) (k:R [.dead v] []):asqX false E E0 P G ops l T σ R:=by
 unfold q3j at h
 simp only[Option.bind_eq_some_iff]at h
 obtain ⟨o,ho,h⟩:=h
 obtain ⟨r,rfl,hw⟩:=q4u ho
 split at h
 ·rename_i f args tys e
  split at h
  ·rename_i g' caps vs' h1 h2
   cases hb:enters P g' with
   | false=>rw[hb]at h; cases h
   | true =>
    rw[hb]at h
    simp at h
    obtain ⟨rfl,rfl,rfl⟩:=h
    show asq E E0 P G ops (o::r) T σ R
    unfold asq
    rw[hw,e]
    right; left
    unfold q5x
    simp only[h1,h2]
    exact ⟨_,hb,hp,k⟩
  ·cases h
 ·cases h
theorem qht {g:FuncId} {vs:List AV} {d:Option Tmp} {v:TV} (h:q3j P G ops l T=some (g,vs,d)) (hp:Ok E E0 P g vs σ v σ') (k:asqX false E E0 P G ops l.tail (putT T d v) σ' R):asqX false E E0 P G ops l T σ R :=
 qhu (eff:=.upd σ' v) h (fun he=>.share he hp) k
theorem callMF {g:FuncId} {vs ws:List AV} {d:Option Tmp} {v:TV} (h:q3j P G ops l T=some (g,vs,d)) (hf:q17 σ vs=some ws) (hm:q1o σ vs=σ) (hp:Pure E E0 P g ws v) (k:asqX false E E0 P G ops l.tail (putT T d v) σ R):asqX false E E0 P G ops l T σ R :=
 qhu (eff:=.upd (q1o σ vs) v) h (fun he=>.mark hf he hp) (by simp only[effσ,effV]; rw[hm]; exact k)
theorem qld {nb:Bool} {id:Nat} {xs:List α} (ho:σ[id]?=some (some (arO nb F.sz (F.f xs).length (F.f xs)))):q40 σ (vO F id xs)=σ:=by
 unfold q40 vO
 simp only[ho]
 rcases q2r nb F.sz (F.f xs).length (F.f xs) with e | ⟨_,e⟩
 ·rw[e]
  simp only[Nat.max_self]
  rw[← e]; exact q7w ho
 ·rw[e]
theorem qjk {a a':AV} {l l':List AV} (h1:frzV σ a=some a') (h2:q17 σ l=some l'):q17 σ (a::l)=some (a'::l'):=by simp only[q17,h1,h2,Option.bind_some,Option.map_some]
theorem qjj {c:AC} {p:PV} (h:frzC σ c=some p):frzV σ (.cell c)=some (.cell (.pv p)):=by simp only[frzV,h,Option.map_some]
theorem qlc {a:AV} {l:List AV} (h1:q98 σ a=σ) (h2:q1o σ l=σ):q1o σ (a::l)=σ:=by simp only[q1o,h1,h2]
theorem qlb {c:AC} (h:q40 σ c=σ):q98 σ (.cell c)=σ:=h
end Abs
end Go.Proofs.YtpidpioifnnllaaGreatDoor
