/-
  Blanks behind a text: what reads, reads with blanks behind it.
  Blanks around a text: the law Blanks.
-/
import Derived.Test.YtpidpioifnnllaaGreatDoorVqK
namespace Go.Proofs.YtpidpioifnnllaaGreatDoor
set_option linter.unusedSimpArgs false
set_option linter.unusedVariables false
open Go.RowKit Go.Lib
namespace Abs
set_option maxRecDepth 100000
section
variable {z : List UInt8}
theorem q57 {c:UInt8} {r:List UInt8}:∀ {l:List UInt8},qc l=c::r→qc (l++z)=c::(r++z)
 | [],h=>by cases h
 | a::t,h=>by
  rw[List.cons_append,q1i]
  rw[q1i]at h
  split at h
  ·rename_i hb; rw[if_pos hb]; exact q57 h
  ·rename_i hb; rw[if_neg hb]; cases h; rfl
theorem qjq:∀ (f:Nat) (l:List UInt8) (n i:Nat),(q1m f l n i).2.2≠[]→q1m f (l++z) n i=((q1m f l n i).1,(q1m f l n i).2.1,(q1m f l n i).2.2++z)
 | 0,l,n,i,h=>rfl
 | f+1,[],n,i,h=>absurd rfl h
 | f+1,c::r,n,i,h=>by
  rw[List.cons_append]
  unfold q1m at h ⊢
  split
  ·rename_i d hd
   rw[hd]at h
   exact qjq f r _ _ h
  ·rfl
theorem qrp {l:List UInt8} (h:(hexS l).2.2=0):hexS (l++z)=hexS l:=by
 unfold hexS at h ⊢
 have h0:(q1m 6 l 0 0).2.2≠[]:=fun q=>by
  unfold q2y at h
  rw[q]at h
  simp at h
 have hne:l≠[]:=fun q=>by subst q; exact h0 rfl
 rw[qjq 6 l 0 0 h0]
 obtain ⟨a,b,c,hq⟩:∃ a b c,q1m 6 l 0 0=(a,b,c):=⟨_,_,_,rfl⟩
 rw[hq]at h0 ⊢
 simp only at h0
 unfold q2y
 cases c with
 | nil=>exact absurd rfl h0
 | cons c t =>
  cases l with
  | nil=>exact absurd rfl hne
  | cons x l=>rfl
theorem qqu {l:List UInt8} (h:(escS l).2.2=0):escS (l++z)=escS l:=by
 cases l with
 | nil=>simp[escS]at h
 | cons c r =>
  rw[List.cons_append]
  rw[q5d]at h
  rw[q5d,q5d]
  by_cases h1:c=110
  ·rw[if_pos h1,if_pos h1]
  rw[if_neg h1]at h; rw[if_neg h1,if_neg h1]
  by_cases h2:c=114
  ·rw[if_pos h2,if_pos h2]
  rw[if_neg h2]at h; rw[if_neg h2,if_neg h2]
  by_cases h3:c=116
  ·rw[if_pos h3,if_pos h3]
  rw[if_neg h3]at h; rw[if_neg h3,if_neg h3]
  by_cases h4:c=34
  ·rw[if_pos h4,if_pos h4]
  rw[if_neg h4]at h; rw[if_neg h4,if_neg h4]
  by_cases h5:c=92
  ·rw[if_pos h5,if_pos h5]
  rw[if_neg h5]at h; rw[if_neg h5,if_neg h5]
  by_cases h6:c=117
  ·rw[if_pos h6]at h; rw[if_pos h6,if_pos h6]
   cases r with
   | nil=>simp at h
   | cons d t =>
    simp only at h
    simp only[List.cons_append]
    by_cases h7:d=123
    ·rw[if_pos h7]at h; rw[if_pos h7,if_pos h7,qrp h]
    ·rw[if_neg h7]at h; simp at h
  ·rw[if_neg h6]at h; simp at h
theorem qqa {l:List UInt8} (hne:l≠[]) (hv:¬ ((decodeL l).1=65533∧(decodeL l).2=1)):decodeL (l++z)=decodeL l:=by
 have:=(qdl l (l.drop (decodeL l).2++z) hne hv).1
 rwa [← List.append_assoc,List.take_append_drop]at this
theorem qdq {l:List UInt8} {n:Nat} (h:n≤l.length):(l++z).drop n=l.drop n++z:=List.drop_append_of_le_length h
theorem qgh:∀ (f f':Nat) (l:List UInt8) (k:Nat) (acc b:List UInt8) (k':Nat),f≤f'→unqF f l k acc=some (b,k',0)→unqF f' (l++z) k acc=some (b,k',0)
 | 0,_,_,_,_,_,_,_,h=>by cases h
 | f+1,0,_,_,_,_,_,hf,_=>by omega
 | f+1,f'+1,[],k,acc,b,k',hf,h=>by simp[unqF]at h
 | f+1,f'+1,c::r,k,acc,b,k',hf,h=>by
  have hle:=decodeL_le (c::r) (by simp)
  rw[List.cons_append]
  simp only[unqF]at h ⊢
  by_cases h1:c=34
  ·rw[if_pos h1]at h ⊢; exact h
  rw[if_neg h1]at h ⊢
  by_cases hb:(decodeL (c::r)).1=65533∧(decodeL (c::r)).2=1
  ·rw[if_neg (by rw[hb.1]; decide),if_pos (.inl hb)]at h
   simp at h
  ·have he:=qqa (z:=z) (l:=c::r) (by simp) hb
   rw[List.cons_append]at he
   rw[he]
   by_cases h2:(decodeL (c::r)).1=92
   ·rw[if_pos h2]at h ⊢
    simp only[List.drop_succ_cons,List.drop_zero]at h ⊢
    by_cases h3:(escS r).2.2=0
    ·have hl:=qat r
     rw[qqu h3]
     rw[if_neg (by simp[h3])]at h ⊢
     rw[qdq (by omega)]
     exact qgh f f' _ _ _ _ _ (by omega) h
    ·rw[if_pos h3]at h
     simp at h
     exact absurd h.2.2 h3
   ·rw[if_neg h2]at h ⊢
    by_cases h3:((decodeL (c::r)).1=65533∧(decodeL (c::r)).2=1)∨(decodeL (c::r)).1 < 32∨(decodeL (c::r)).1=127
    ·rw[if_pos h3]at h; simp at h
    ·rw[if_neg h3]at h ⊢
     rw[← List.cons_append,qdq hle]
     exact qgh f f' _ _ _ _ _ (by omega) h
theorem qnu {l r:List UInt8} {b:ByteArray} (h:q1d l=.inr (b,r)):q1d (l++z)=.inr (b,r++z):=by
 unfold q1d at h ⊢
 cases hq:unqS l with
 | none=>rw[hq]at h; cases h
 | some q =>
  obtain ⟨a,k,e⟩:=q
  rw[hq]at h
  simp only at h
  split at h
  ·rename_i he
   subst he
   obtain ⟨_,_,hk⟩:=q9t hq
   have h2:unqS (l++z)=some (a,k,0):=by
    unfold unqS at hq ⊢
    cases l with
    | nil=>simp at hq
    | cons c t =>
     simp only[List.cons_append]at hq ⊢
     split at hq
     ·rename_i hc
      rw[if_pos hc]
      exact qgh _ _ _ _ _ _ _ (by simp only[List.length_cons,List.length_append]; omega) hq
     ·simp at hq
   rw[h2]
   simp only
   rw[if_pos trivial,qdq hk]
   cases h; rfl
  ·cases h
theorem qil (hz:Stop z):∀ r:List UInt8,(r++z).takeWhile digB=r.takeWhile digB∧(r++z).dropWhile digB=r.dropWhile digB++z
 | []=>by
  have:=qgb (t:=[]) z (fun _ h=>absurd h List.not_mem_nil) hz
  exact this
 | c::r=>by
  obtain ⟨a,b⟩:=qil hz r
  rw[List.cons_append]
  cases hc:digB c with
  | true=>exact ⟨by rw[List.takeWhile_cons_of_pos hc,List.takeWhile_cons_of_pos hc,a],by rw[List.dropWhile_cons_of_pos hc,List.dropWhile_cons_of_pos hc,b]⟩
  | false =>
   have hc':¬ digB c=true:=by rw[hc]; decide
   exact ⟨by rw[List.takeWhile_cons_of_neg hc',List.takeWhile_cons_of_neg hc'],by rw[List.dropWhile_cons_of_neg hc',List.dropWhile_cons_of_neg hc',List.cons_append]⟩
theorem qtf (hz:Stop z) {c:UInt8} {r t:List UInt8} {x:Val} (h:numS c r=.inr (x,t)):numS c (r++z)=.inr (x,t++z):=by
 obtain ⟨a,b⟩:=qil hz r
 unfold numS at h ⊢
 rw[a,b]
 split at h
 ·rename_i he; rw[if_pos he]; cases h; rfl
 ·cases h
theorem qx8 {l t:List UInt8} {x:Val} (h:q20 l=.inr (x,t)):q20 (l++z)=.inr (x,t++z):=by
 unfold q20 at h
 split at h
 ·rename_i hp
  obtain ⟨q,rfl⟩:=List.isPrefixOf_iff_prefix.1 hp
  cases h
  simp[q20]
 split at h
 ·rename_i hp
  obtain ⟨q,rfl⟩:=List.isPrefixOf_iff_prefix.1 hp
  cases h
  simp[q20]
 split at h
 ·rename_i hp
  obtain ⟨q,rfl⟩:=List.isPrefixOf_iff_prefix.1 hp
  cases h
  simp[q20]
 split at h
 ·rename_i hp
  obtain ⟨q,rfl⟩:=List.isPrefixOf_iff_prefix.1 hp
  cases h
  simp[q20]
 ·cases h
theorem qlf {e:UInt8} {l t:List UInt8} {b:Bool} (h:q18 e l=.inr (b,t)):q18 e (l++z)=.inr (b,t++z):=by
 unfold q18 at h ⊢
 cases hb:qc l with
 | nil=>rw[hb]at h; cases h
 | cons c r =>
  rw[hb]at h
  rw[q57 hb]
  simp only at h ⊢
  split at h
  ·rename_i hc; rw[if_pos hc]; cases h; rfl
  rename_i hc
  rw[if_neg hc]
  split at h
  ·rename_i hc2; rw[if_pos hc2]; cases h; rfl
  ·cases h
theorem qs5 {ks:List ByteArray} {k:ByteArray} {l t:List UInt8} (h:keyS ks l=.inr (k,t)):keyS ks (l++z)=.inr (k,t++z):=by
 unfold keyS at h ⊢
 cases hb:qc l with
 | nil=>rw[hb]at h; cases h
 | cons c r =>
  rw[hb]at h
  rw[q57 hb]
  simp only at h ⊢
  split at h
  ·rename_i hc
   rw[if_pos hc]
   cases h1:q1d (c::r) with
   | inl p=>rw[h1]at h; cases h
   | inr y =>
    obtain ⟨k',l1⟩:=y
    rw[h1]at h
    have:=qnu (z:=z) h1
    rw[List.cons_append]at this
    rw[this]
    simp only at h ⊢
    split at h
    ·cases h
    rename_i hk
    rw[if_neg hk]
    cases h2:qc l1 with
    | nil=>rw[h2]at h; cases h
    | cons c2 r2 =>
     rw[h2]at h
     rw[q57 h2]
     simp only at h ⊢
     split at h
     ·rename_i hc2; rw[if_pos hc2]; cases h; rfl
     ·cases h
  ·cases h
def PExt (z:List UInt8) (rec:List UInt8→PR Val):Prop:=∀ l x t,rec l=.inr (x,t)→rec (l++z)=.inr (x,t++z)
theorem qkv {rec:List UInt8→PR Val} (hr:PExt z rec):∀ (f f':Nat) (l t:List UInt8) (acc:List Val) (x:Val),f≤f'→q1r rec f l acc=.inr (x,t)→q1r rec f' (l++z) acc=.inr (x,t++z)
 | 0,_,_,_,_,_,_,h=>by cases h
 | f+1,0,_,_,_,_,hf,_=>by omega
 | f+1,f'+1,l,t,acc,x,hf,h=>by
  unfold q1r at h ⊢
  cases h1:rec l with
  | inl p=>rw[h1]at h; cases h
  | inr y =>
   obtain ⟨v,l1⟩:=y
   rw[h1]at h
   rw[hr _ _ _ h1]
   simp only at h ⊢
   cases h2:q18 93 l1 with
   | inl p=>rw[h2]at h; cases h
   | inr y =>
    obtain ⟨b,l2⟩:=y
    rw[h2]at h
    rw[qlf h2]
    cases b with
    | true=>exact qkv hr f f' _ _ _ _ (by omega) h
    | false=>simp only at h ⊢; cases h; rfl
theorem ql5 {rec:List UInt8→PR Val} {fin:List ByteArray→List Val→Val} (hr:PExt z rec):∀ (f f':Nat) (l t:List UInt8) (ks:List ByteArray) (vs:List Val) (x:Val),f≤f'→mapF rec fin f l ks vs=.inr (x,t)→mapF rec fin f' (l++z) ks vs=.inr (x,t++z)
 | 0,_,_,_,_,_,_,_,h=>by cases h
 | f+1,0,_,_,_,_,_,hf,_=>by omega
 | f+1,f'+1,l,t,ks,vs,x,hf,h=>by
  unfold mapF at h ⊢
  cases h0:keyS ks l with
  | inl p=>rw[h0]at h; cases h
  | inr y =>
   obtain ⟨k,l0⟩:=y
   rw[h0]at h
   rw[qs5 h0]
   simp only at h ⊢
   cases h1:rec l0 with
   | inl p=>rw[h1]at h; cases h
   | inr y =>
    obtain ⟨v,l1⟩:=y
    rw[h1]at h
    rw[hr _ _ _ h1]
    simp only at h ⊢
    cases h2:q18 125 l1 with
    | inl p=>rw[h2]at h; cases h
    | inr y =>
     obtain ⟨b,l2⟩:=y
     rw[h2]at h
     rw[qlf h2]
     cases b with
     | true=>exact ql5 hr f f' _ _ _ _ _ (by omega) h
     | false=>simp only at h ⊢; cases h; rfl
theorem qsm {rec:List UInt8→PR Val} (hr:PExt z rec) {l t:List UInt8} {x:Val} (h:q3c rec l=.inr (x,t)):q3c rec (l++z)=.inr (x,t++z):=by
 unfold q3c at h ⊢
 cases hb:qc l with
 | nil=>rw[hb]at h; cases h
 | cons c r =>
  rw[hb]at h
  rw[q57 hb]
  simp only at h ⊢
  split at h
  ·rename_i hc; rw[if_pos hc]; cases h; rfl
  ·rename_i hc; rw[if_neg hc]
   have:=qkv hr _ ((l++z).length+1) _ _ _ _ (by rw[List.length_append]; omega) h
   rwa [List.cons_append]at this
theorem qt0 {rec:List UInt8→PR Val} {fin:List ByteArray→List Val→Val} (hr:PExt z rec) {l t:List UInt8} {x:Val} (h:mapS rec fin l=.inr (x,t)):mapS rec fin (l++z)=.inr (x,t++z):=by
 unfold mapS at h ⊢
 cases hb:qc l with
 | nil=>rw[hb]at h; cases h
 | cons c r =>
  rw[hb]at h
  rw[q57 hb]
  simp only at h ⊢
  split at h
  ·rename_i hc; rw[if_pos hc]; cases h; rfl
  ·rename_i hc; rw[if_neg hc]
   have:=ql5 (fin:=fin) hr _ ((l++z).length+1) _ _ _ _ _ (by rw[List.length_append]; omega) h
   rwa [List.cons_append]at this
theorem qnd (hz:Stop z) (d:Nat) {c:UInt8} {r t:List UInt8} {x:Val} (hb:isBl c=false) (h1:c≠91) (h2:c≠123) (h:qg finV d (c::r)=.inr (x,t)):qg finV d (c::r++z)=.inr (x,t++z):=by
 rw[q83 d c r hb h1 h2]at h
 rw[List.cons_append,q83 d c (r++z) hb h1 h2]
 split at h
 ·rename_i h34
  rw[if_pos h34]
  cases hq:q1d (c::r) with
  | inl p=>rw[hq]at h; cases h
  | inr y =>
   obtain ⟨b,l1⟩:=y
   rw[hq]at h
   have:=qnu (z:=z) hq
   rw[List.cons_append]at this
   rw[this]
   simp only at h ⊢
   cases h; rfl
 rename_i h34
 rw[if_neg h34]
 split at h
 ·rename_i hn
  rw[if_pos hn]; exact qtf hz h
 ·rename_i hn
  rw[if_neg hn]
  have:=qx8 (z:=z) h
  rwa [List.cons_append]at this
theorem qww (hz:Stop z):∀ d:Nat,PExt z (qg finV d):=fun d=>by
 induction d with
 | zero =>
  intro l x t h
  cases hb:qc l with
  | nil=>rw[qcf finV 0 l hb]at h; cases h
  | cons c r =>
   rw[← q4j,hb]at h
   rw[← q4j,q57 hb,← List.cons_append]
   have hnb:=qd9 hb
   by_cases h1:c=91∨c=123
   ·have:qg finV 0 (c::r)=.inl (4,c::r):=by
     unfold qg
     rw[q1i,if_neg (by rw[hnb]; decide)]
     simp only
     rw[if_pos h1]
    rw[this]at h; cases h
   ·exact qnd hz 0 hnb (fun q=>h1 (.inl q)) (fun q=>h1 (.inr q)) h
 | succ d ih =>
  intro l x t h
  cases hb:qc l with
  | nil=>rw[qcf finV _ l hb]at h; cases h
  | cons c r =>
   rw[← q4j,hb]at h
   rw[← q4j,q57 hb,← List.cons_append]
   have hnb:=qd9 hb
   by_cases h1:c=91
   ·subst h1
    unfold qg at h ⊢
    rw[List.cons_append,q1i,if_neg (by decide)]
    rw[q1i,if_neg (by decide)]at h
    simp only at h ⊢
    rw[if_pos trivial]at h ⊢
    exact qsm ih h
   by_cases h2:c=123
   ·subst h2
    unfold qg at h ⊢
    rw[List.cons_append,q1i,if_neg (by decide)]
    rw[q1i,if_neg (by decide)]at h
    simp only at h ⊢
    rw[if_neg (by decide),if_pos trivial]at h ⊢
    exact qt0 ih h
   ·exact qnd hz _ hnb h1 h2 h
end
end Abs
end Go.Proofs.YtpidpioifnnllaaGreatDoor
namespace Go.Proofs.YtpidpioifnnllaaGreatDoor
set_option linter.unusedSimpArgs false
set_option linter.unusedVariables false
open Go.RowKit Go.Lib
namespace Abs
set_option maxRecDepth 100000
theorem qur {s:ByteArray} {b:List UInt8} (hs:s.size≤3000) (hl:b.length≤40) (hb:q27 b) :
  ∃ v k a a',q2b s=(v,⟨k,a,eS⟩)∧q2b (bS (b++bL s))=(v,⟨k,a',eS⟩)∧(a'=a∨a'=a+(b.length:Int))∧(k=0→a=0∧a'=0)∧0≤a∧a≤3000:=by
 have hsz:(bS (b++bL s)).size=b.length+s.size:=by rw[q26,List.length_append,q2c]
 have hok:=qc9 (s:=s) (by omega)
 have hps:∀ l,ps (bS (b++bL s)) l=ps s l+(b.length:Int):=fun l=>by unfold ps; rw[hsz]; omega
 have hv:qg finV 32 (bL (bS (b++bL s)))=qg finV 32 (bL s):=by rw[q4l]; exact qo7 (q58 _ hb)
 have hin:∀ l,l <:+ bL s→0≤ps s l∧ps s l≤3000:=fun l hl=>by
  have:=q1x hl
  unfold ps; omega
 unfold q2b
 rw[if_neg (by omega),if_neg (by omega),hv]
 cases hx:qg finV 32 (bL s) with
 | inl p =>
  rw[hx]at hok
  have hp:=qgj (s:=s) (by omega) hx
  exact ⟨vZ,p.1,ps s p.2,_,rfl,rfl,.inr (hps _),fun h=>absurd h hp,hin _ hok⟩
 | inr y =>
  rw[hx]at hok
  simp only
  unfold q5c
  by_cases h:qc y.2=[]
  ·rw[if_pos h,if_pos h]
   by_cases hc:q1y y.1=0
   ·rw[if_pos hc]; exact ⟨_,_,_,_,rfl,rfl,.inl rfl,fun _=>⟨rfl,rfl⟩,by decide,by decide⟩
   ·rw[if_neg hc]; exact ⟨_,_,_,_,rfl,rfl,.inl rfl,fun h=>absurd h hc,by decide,by decide⟩
  ·rw[if_neg h,if_neg h]
   exact ⟨_,_,_,_,rfl,rfl,.inr (hps _),fun h=>absurd h (by decide),hin _ ((q1j _).trans hok.2)⟩
theorem qw6 {b:List UInt8} (hb:q27 b):Stop b:=by
 cases b with
 | nil=>trivial
 | cons c r=>exact qd5 (hb c List.mem_cons_self)
theorem bl_all {b:List UInt8} (hb:q27 b):qc b=[]:=by have:=q58 (b:=b) [] hb; rwa [List.append_nil]at this
theorem qhj:∀ {l:List UInt8},qc l=[]→q27 l
 | [],_=>fun c hc=>absurd hc List.not_mem_nil
 | a::t,h=>by
  rw[q1i]at h
  split at h
  ·rename_i hb
   intro c hc
   rcases List.mem_cons.1 hc with rfl | hc
   ·exact hb
   ·exact qhj h c hc
  ·cases h
theorem qup {s:ByteArray} {b:List UInt8} (hs:s.size≤3000) (hl:b.length≤40) (hb:q27 b) {v:Val} {a:Int} (h:q2b s=(v,⟨0,a,eS⟩)) :
  q2b (bS (bL s++b))=(v,⟨0,0,eS⟩):=by
 have hsz:(bS (bL s++b)).size=s.size+b.length:=by rw[q26,List.length_append,q2c]
 unfold q2b at h ⊢
 rw[if_neg (by omega)]at h
 rw[if_neg (by omega),q4l]
 cases hx:qg finV 32 (bL s) with
 | inl p =>
  rw[hx]at h
  have hp:=qgj (s:=s) (by omega) hx
  simp only[Prod.mk.injEq,DiagG.mk.injEq]at h
  exact absurd h.2.1 hp
 | inr y =>
  obtain ⟨x,t⟩:=y
  rw[hx]at h
  rw[qww (qw6 hb) 32 _ _ _ hx]
  simp only at h ⊢
  unfold q5c at h ⊢
  by_cases h1:qc t=[]
  ·rw[if_pos h1]at h
   rw[if_pos (by rw[q58 _ (qhj h1)]; exact bl_all hb)]
   by_cases hc:q1y x=0
   ·rw[if_pos hc]at h ⊢
    simp only[Prod.mk.injEq,DiagG.mk.injEq]at h
    rw[h.1]
   ·rw[if_neg hc]at h
    simp only[Prod.mk.injEq,DiagG.mk.injEq]at h
    exact absurd h.2.1 hc
  ·rw[if_neg h1]at h
   simp only[Prod.mk.injEq,DiagG.mk.injEq]at h
   exact absurd h.2.1 (by decide)
theorem bl4:∀ i:Fin 4,∃ c:UInt8,isBl c=true∧sidx (⟨#[32,9,10,13]⟩:ByteArray) ((i.val:Nat):Int)=some ((c.toNat:Nat):Int)
 | ⟨0,_⟩=>⟨32,rfl,rfl⟩
 | ⟨1,_⟩=>⟨9,rfl,rfl⟩
 | ⟨2,_⟩=>⟨10,rfl,rfl⟩
 | ⟨3,_⟩=>⟨13,rfl,rfl⟩
theorem qpt (c:UInt8):bstr [((c.toNat:Nat):Int)]=some (bS [c]):=by
 unfold bstr
 have:=c.toNat_lt
 rw[if_pos (by intro x hx; rw[List.mem_singleton.1 hx]; omega)]
 simp[bS]
theorem qhl {n:Nat} {kind:Int} (hn:n≤40) (h0:0≤kind) (h1:kind≤255):∀ (m:Nat) (acc:List UInt8),acc.length+m=n→q27 acc →
  ∃ b,qf (gQ0e (n:Int) kind) (bS acc,(acc.length:Int))=some (bS b)∧b.length=n∧q27 b
 | 0,acc,hm,ha=>by
  refine ⟨acc,qs ?_,by omega,ha⟩
  unfold gQ0e
  simp only
  rw[decide_eq_false (by omega),cond_false]
 | m+1,acc,hm,ha=>by
  have hmod:((IntKind.i64.wrap ((acc.length:Int)+IntKind.i64.wrap kind)).tmod 4)=((((acc.length+kind.toNat) % 4:Nat)):Int):=by
   rw[q13 (n:=kind) (by omega) (by omega),q13 (by omega) (by omega)]
   rw[show (acc.length:Int)+kind=((acc.length+kind.toNat:Nat):Int) by omega]
   rfl
  obtain ⟨c,hc,hcs⟩:=bl4 ⟨(acc.length+kind.toNat) % 4,Nat.mod_lt _ (by decide)⟩
  simp only at hcs
  obtain ⟨b,q1,q2,q3⟩:=qhl hn h0 h1 m (acc++[c]) (by rw[List.length_append]; simp only[List.length_cons,List.length_nil]; omega) (fun x hx=>by
   rcases List.mem_append.1 hx with hx | hx
   ·exact ha x hx
   ·rw[List.mem_singleton.1 hx]; exact hc)
  refine ⟨b,?_,q2,q3⟩
  rw[← q1]
  refine q1v ?_
  unfold gQ0e
  simp only
  rw[decide_eq_true (by omega),cond_true,hmod,hcs,Option.bind_some,qpt,Option.bind_some,q14 _ _ (by simp only[List.length_cons,List.length_nil]; omega),Option.bind_some,q13 (by omega) (by omega)]
  simp only[List.length_append,List.length_cons,List.length_nil]
  rfl
theorem qpq {n:Nat} {kind:Int} (hn:n≤40) (h0:0≤kind) (h1:kind≤255):∃ b,gQ0d (n:Int) kind=some (bS b)∧b.length=n∧q27 b :=
 qhl hn h0 h1 n [] (by simp) (fun c hc=>absurd hc List.not_mem_nil)
theorem qsb (s:ByteArray) (front kind:Int) (h0:0≤front) (h1:front≤255) (h2:0≤kind) (h3:kind≤255):gQ02 s front kind=some true:=by
 unfold gQ02
 rw[awake]
 by_cases hs:(s.size:Int) > 3000
 ·rw[decide_eq_true hs]; rfl
 rw[decide_eq_false hs,cond_false]
 have hn:(IntKind.i64.wrap front).tmod 41=((front.toNat % 41:Nat):Int):=by
  rw[q13 (by omega) (by omega)]
  rw[show front=((front.toNat:Nat):Int) by omega]
  rfl
 rw[hn]
 have hn40:front.toNat % 41≤40:=by have:=Nat.mod_lt front.toNat (show 0 < 41 by decide); omega
 obtain ⟨b,e1,e2,e3⟩:=qpq hn40 h2 h3
 rw[e1]
 have hs2:s.size≤3000:=by omega
 obtain ⟨v,k,a,a',p1,p2,p3,p4,p5,p6⟩:=qur hs2 (by omega) e3
 have hsb:s=bS (bL s):=(qae s).symm
 have c1:cat (bS b) s=some (bS (b++bL s)):=by
  conv=>lhs; rw[hsb]
  exact q14 _ _ (by rw[q2c]; omega)
 have c2:cat s (bS b)=some (bS (bL s++b)):=by
  conv=>lhs; rw[hsb]
  exact q14 _ _ (by rw[q2c]; omega)
 rw[q50 s,p1]
 simp only[Option.bind_some]
 rw[c1]
 simp only[Option.bind_some]
 rw[q50,p2]
 have hf:v.Fits:=by have:=qfh s; rw[p1]at this; exact this
 simp only[Option.bind_some]
 rw[q9i hf]
 simp only[Option.bind_some,decide_true,Bool.not_true,cond_false]
 rw[c2]
 simp only[Option.bind_some]
 rw[q50]
 by_cases hk:k=0
 ·subst hk
  obtain ⟨rfl,rfl⟩:=p4 rfl
  rw[qup hs2 (by omega) e3 p1]
  simp only[decide_true,Bool.not_true,cond_false,Option.bind_some,Bool.and_true,cond_true]
  rw[q9i hf]
  rfl
 ·rw[decide_eq_false hk]
  simp only[Bool.not_false,cond_true]
  have hw:IntKind.i64.wrap (a+((front.toNat % 41:Nat):Int))=a+(b.length:Int):=by rw[q13 (by omega) (by omega),e2]
  rw[hw]
  by_cases ha:a'=a
  ·rw[decide_eq_true ha]; rfl
  ·rw[decide_eq_false ha,decide_eq_true (p3.resolve_left ha)]; rfl
end Abs
end Go.Proofs.YtpidpioifnnllaaGreatDoor
