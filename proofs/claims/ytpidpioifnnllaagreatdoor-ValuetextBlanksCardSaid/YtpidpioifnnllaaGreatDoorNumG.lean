/-
  The plain mathematics of layer 1: no program in sight.
  Contracts of the two functions Valid.
  Contracts of the functions of the package number that read or make texts.
  Contracts of the functions of the package provisionref01 that read texts.
  Contracts of the two functions Format: of number and of the reference.
-/
import Derived.Lib.ItoaNum
import Derived.Lib.ParseIntB
import Derived.Test.YtpidpioifnnllaaGreatDoorRows
import Derived.WalkKit
import Derived.WalkSpells
import Derived.WalkLawsBesides
import Derived.Lib.Hide
import Derived.Test.YtpidpioifnnllaaGreatDoorShelf
import Derived.Lib.IndexBytes
import Derived.Lib.AtoiErrMem
import Derived.Lib.LaidTab
namespace Go.Proofs.YtpidpioifnnllaaGreatDoor.NumPlain
def validB (n:Int):Bool:=decide (-9007199254740992≤n∧n≤9007199254740992)
def right (n:Int):Int×Int:=if validB n then (n,0) else (0,5)
def add (a b:Int):Int×Int:=if validB a && validB b then right (a+b) else (0,1)
def sub (a b:Int):Int×Int:=if validB a && validB b then right (a - b) else (0,1)
def mul (a b:Int):Int×Int:=if validB a && validB b then right (a*b) else (0,1)
def div (a b:Int):Int×Int:=if validB a && validB b then (if b=0 then (0,15) else (a.fdiv b,0)) else (0,1)
def mod (a b:Int):Int×Int:=if validB a && validB b then (if b=0 then (0,15) else (a.fmod b,0)) else (0,1)
theorem validB_iff (n:Int):validB n=true ↔ -9007199254740992≤n∧n≤9007199254740992:=by simp[validB]
theorem validB_mk {n:Int} (h1:-9007199254740992≤n) (h2:n≤9007199254740992):validB n=true:=(validB_iff n).2 ⟨h1,h2⟩
theorem validB_no {n:Int} (h:¬ (-9007199254740992≤n∧n≤9007199254740992)):validB n=false:=by simpa [validB] using h
theorem absdiv {x s M:Int} (hs:0 < s):M / s < x ↔ M < x*s:=Int.ediv_lt_iff_lt_mul hs
theorem mul_fits {a b M:Int} (h:max a (-a)*max b (-b)≤M):-M≤a*b∧a*b≤M:=by
 have e:∀ x:Int,max x (-x)=x∧0≤x∨max x (-x)=-x∧x < 0:=by intro x; omega
 rcases e a with ⟨h1,h2⟩ | ⟨h1,h2⟩ <;> rcases e b with ⟨h3,h4⟩ | ⟨h3,h4⟩ <;> rw[h1,h3]at h
 ·have:=Int.mul_nonneg h2 h4; omega
 ·rw[Int.mul_neg]at h; have:=Int.mul_nonneg h2 (show 0≤-b by omega); rw[Int.mul_neg]at this; omega
 ·rw[Int.neg_mul]at h; have:=Int.mul_nonneg (show 0≤-a by omega) h4; rw[Int.neg_mul]at this; omega
 ·rw[Int.neg_mul_neg]at h; have:=Int.mul_nonneg (show 0≤-a by omega) (show 0≤-b by omega); rw[Int.neg_mul_neg]at this; omega
theorem mul_big {a b M:Int} (h:M < max a (-a)*max b (-b)):¬ (-M≤a*b∧a*b≤M):=by
 have e:∀ x:Int,max x (-x)=x∧0≤x∨max x (-x)=-x∧x < 0:=by intro x; omega
 rcases e a with ⟨h1,h2⟩ | ⟨h1,h2⟩ <;> rcases e b with ⟨h3,h4⟩ | ⟨h3,h4⟩ <;> rw[h1,h3]at h
 ·omega
 ·rw[Int.mul_neg]at h; omega
 ·rw[Int.neg_mul]at h; omega
 ·rw[Int.neg_mul_neg]at h; omega
def size (n:Int):Int:=if n < 0 then -n else n
theorem size_max (n:Int):size n=max n (-n):=by unfold size; split <;> omega
theorem size_bd {n:Int} (h:-9007199254740992≤n∧n≤9007199254740992):0≤size n∧size n≤9007199254740992:=by unfold size; split <;> omega
theorem size_pos {n:Int} (h:n≠0):1≤size n:=by unfold size; split <;> omega
theorem mul_yes {a b:Int} (h1:-9007199254740992≤a∧a≤9007199254740992) (h2:-9007199254740992≤b∧b≤9007199254740992) (h:size a*size b≤9007199254740992):mul a b=(a*b,0)∧-9007199254740992≤a*b∧a*b≤9007199254740992:=by
 rw[size_max,size_max]at h
 have:=mul_fits h
 exact ⟨by simp[mul,right,validB,h1,h2,this],this⟩
theorem mul_no {a b:Int} (h1:-9007199254740992≤a∧a≤9007199254740992) (h2:-9007199254740992≤b∧b≤9007199254740992) (h:9007199254740992 < size a*size b):mul a b=(0,5):=by
 rw[size_max,size_max]at h
 have:=mul_big h
 have e:validB (a*b)=false:=validB_no this
 simp[mul,right,e,validB_mk h1.1 h1.2,validB_mk h2.1 h2.2]
theorem tdiv_bd {a:Int} (b:Int) (h:-9007199254740992≤a∧a≤9007199254740992):-9007199254740992≤a.tdiv b∧a.tdiv b≤9007199254740992:=by
 have h1:=Int.natAbs_tdiv_le_natAbs a b
 omega
theorem tdiv_mul_bd {a:Int} (b:Int) (h:-9007199254740992≤a∧a≤9007199254740992):-18014398509481984≤a.tdiv b*b∧a.tdiv b*b≤18014398509481984:=by
 have h1:=Int.mul_tdiv_add_tmod a b
 have h2:=Int.natAbs_tmod a b
 have h3:=Nat.mod_le a.natAbs b.natAbs
 rw[Int.mul_comm]at h1
 omega
theorem fdiv_of_tdiv {a b:Int} (hb:b≠0):a.fdiv b=if a.tmod b≠0∧(decide (a < 0) != decide (b < 0))=true then a.tdiv b - 1 else a.tdiv b:=by
 have h1:=Int.fdiv_eq_tdiv (a:=a) (b:=b)
 have h2:=Int.dvd_iff_tmod_eq_zero (a:=b) (b:=a)
 rw[h1]
 by_cases hd:b ∣ a
 ·have:=h2.1 hd
  simp[hd,this]
 ·have hm:a.tmod b≠0:=fun h=>hd (h2.2 h)
  by_cases ha:a < 0 <;> by_cases hb':b < 0
  all_goals
   have hs1:0≤a ↔ ¬ a < 0:=by omega
   have hs2:0≤b ↔ ¬ b < 0:=by omega
   simp[hd,hm,ha,hb',hs1,hs2]
  ·rw[Int.sign_eq_neg_one_of_neg hb']; omega
  ·omega
theorem fdiv_up {a b:Int} (hb:b≠0) (h:a.tmod b≠0) (h':(decide (a < 0) != decide (b < 0))=true):a.fdiv b=a.tdiv b - 1:=by rw[fdiv_of_tdiv hb,if_pos ⟨h,h'⟩]
theorem fdiv_same {a b:Int} (hb:b≠0) (h:a.tmod b=0):a.fdiv b=a.tdiv b:=by rw[fdiv_of_tdiv hb,if_neg fun h1=>h1.1 h]
theorem fdiv_same' {a b:Int} (hb:b≠0) (h':(decide (a < 0) != decide (b < 0))=false):a.fdiv b=a.tdiv b:=by rw[fdiv_of_tdiv hb,if_neg fun h1=>by rw[h']at h1; exact absurd h1.2 (by decide)]
theorem fdiv_bd {a:Int} (b:Int) (hb:b≠0) (h:-9007199254740992≤a∧a≤9007199254740992):-9007199254740993≤a.fdiv b∧a.fdiv b≤9007199254740992:=by
 have:=tdiv_bd b h
 rw[fdiv_of_tdiv hb]; split <;> omega
theorem tmod_zero_iff {a b:Int}:b*a.tdiv b=a ↔ a.tmod b=0:=by
 have:=Int.mul_tdiv_add_tmod a b; omega
theorem sign_of (a:Int) (h:a≠0):(∃ c:Int,0 < c∧a=-c)∨0 < a:=by
 by_cases h1:a < 0
 ·exact .inl ⟨-a,by omega,by omega⟩
 ·exact .inr (by omega)
theorem size_neg {c:Int} (h:0 < c):size (-c)=c:=by unfold size; rw[if_pos (by omega)]; omega
theorem size_same {c:Int} (h:0 < c):size c=c:=by unfold size; rw[if_neg (by omega)]
theorem fmod_sign (a b:Int):(0 < b→0≤a.fmod b∧a.fmod b < b)∧(b < 0→a.fmod b≤0∧b < a.fmod b):=by
 refine ⟨fun h=>⟨Int.fmod_nonneg_of_pos a h,Int.fmod_lt_of_pos a h⟩,fun h=>?_⟩
 have h1:=Int.fmod_nonneg_of_pos (-a) (show 0 < -b by omega)
 have h2:=Int.fmod_lt_of_pos (-a) (show 0 < -b by omega)
 rw[Int.neg_fmod_neg]at h1 h2
 omega
theorem div_mod (a b:Int):(div a b=(0,1)∧mod a b=(0,1)∧True)∨(div a b=(0,15)∧mod a b=(0,15)∧True) ∨
  (div a b=(a.fdiv b,0)∧mod a b=(a - b*a.fdiv b,0)∧(-36028797018963968≤b*a.fdiv b∧b*a.fdiv b≤36028797018963968)∧(-36028797018963968≤a - b*a.fdiv b∧a - b*a.fdiv b≤36028797018963968)):=by
 cases ha:validB a with
 | false=>exact .inl ⟨by simp[div,ha],by simp[mod,ha],trivial⟩
 | true =>
  cases hb:validB b with
  | false=>exact .inl ⟨by simp[div,hb],by simp[mod,hb],trivial⟩
  | true =>
   by_cases h0:b=0
   ·subst h0; exact .inr (.inl ⟨by simp[div,ha,hb],by simp[mod,ha,hb],trivial⟩)
   ·have h1:=(validB_iff a).1 ha
    have h2:=(validB_iff b).1 hb
    have h3:=fmod_sign a b
    have h4:=Int.fmod_def a b
    refine .inr (.inr ⟨by simp[div,ha,hb,h0],by simp[mod,ha,hb,h0,h4],?_,?_⟩) <;> omega
def isDig (c:UInt8):Bool:=decide (48≤c.toNat∧c.toNat≤57)
def decV:List UInt8→Nat→Nat
 | [],acc=>acc
 | c::r,acc=>decV r (acc*10+(c.toNat - 48))
def decVal (acc:Nat) (l:List UInt8):Nat:=decV l acc
theorem decVal_nil (acc:Nat):decVal acc []=acc:=rfl
theorem decVal_cons (acc:Nat) (c:UInt8) (r:List UInt8):decVal acc (c::r)=decVal (acc*10+(c.toNat - 48)) r:=by simp only[decVal,decV]
def canonU (t:List UInt8):Bool:=t.all isDig && !t.isEmpty && (t.headD 0 != 48 || t.length == 1)
def canonB (l:List UInt8):Bool:=if l.headD 0=45 then l.tail != [48] && canonU l.tail else canonU l
def sval (l:List UInt8):Int:=if l.headD 0=45 then -(decVal 0 l.tail:Int) else decVal 0 l
theorem decVal_append (l m:List UInt8):∀ acc:Nat,decVal acc (l++m)=decVal (decVal acc l) m:=by
 induction l with
 | nil=>intro acc; rfl
 | cons c r ih=>intro acc; rw[List.cons_append,decVal_cons,decVal_cons,ih]
theorem decVal_snoc (acc:Nat) (l:List UInt8) (c:UInt8):decVal acc (l++[c])=decVal acc l*10+(c.toNat - 48):=by
 rw[decVal_append,decVal_cons,decVal_nil]
theorem decVal_le (acc:Nat) (l:List UInt8):acc≤decVal acc l:=by
 induction l generalizing acc with
 | nil=>exact Nat.le_refl _
 | cons c r ih=>exact Nat.le_trans (by omega) (ih _)
theorem decVal_pow (acc:Nat) (l:List UInt8):acc*10 ^ l.length≤decVal acc l:=by
 induction l generalizing acc with
 | nil=>simp[decVal_nil]
 | cons c r ih =>
  refine Nat.le_trans ?_ (ih _)
  rw[List.length_cons,Nat.pow_succ,Nat.mul_comm (10 ^ _) 10,← Nat.mul_assoc]
  exact Nat.mul_le_mul_right _ (by omega)
theorem decVal_lt (acc:Nat) (l:List UInt8) (h:l.all isDig=true):decVal acc l < (acc+1)*10 ^ l.length:=by
 induction l generalizing acc with
 | nil=>simp[decVal_nil]
 | cons c r ih =>
  simp only[List.all_cons,Bool.and_eq_true,isDig,decide_eq_true_eq]at h
  refine Nat.lt_of_lt_of_le (ih _ (by simpa [isDig] using h.2)) ?_
  rw[List.length_cons,Nat.pow_succ,Nat.mul_comm (10 ^ _) 10,← Nat.mul_assoc]
  exact Nat.mul_le_mul_right _ (by omega)
theorem parseUintM_dig (acc:Nat) (l:List UInt8) (h:l.all isDig=true) (ha:acc≤18446744073709551615) :
  Lib.parseUintM 18446744073709551615 acc l=if decVal acc l≤18446744073709551615 then .ok (decVal acc l) else .range:=by
 induction l generalizing acc with
 | nil=>simp[Lib.parseUintM,decVal_nil,ha]
 | cons c r ih =>
  simp only[List.all_cons,Bool.and_eq_true]at h
  have hc:48≤c.toNat∧c.toNat≤57:=by simpa [isDig] using h.1
  have hle:=decVal_le (acc*10+(c.toNat - 48)) r
  have e:decVal acc (c::r)=decVal (acc*10+(c.toNat - 48)) r:=decVal_cons _ _ _
  rw[e]
  simp only[Lib.parseUintM,hc,and_self,if_true]
  split
  ·rw[if_neg (by omega)]
  ·split
   ·rw[if_neg (by omega)]
   ·exact ih _ h.2 (by omega)
theorem canonU_parts {t:List UInt8} (h:canonU t=true):t.all isDig=true∧t≠[]∧(t.headD 0≠48∨t.length=1):=by
 simp only[canonU,Bool.and_eq_true,Bool.or_eq_true]at h
 exact ⟨h.1.1,by rintro rfl; simp at h,by simpa using h.2⟩
theorem head_dig {t:List UInt8} (h:canonU t=true):isDig (t.headD 0)=true:=by
 obtain ⟨h1,h2,_⟩:=canonU_parts h
 cases t with
 | nil=>exact absurd rfl h2
 | cons c r=>simp only[List.all_cons,Bool.and_eq_true]at h1; exact h1.1
theorem canonB_pos {l:List UInt8} (h:canonU l=true):canonB l=true∧sval l=decVal 0 l∧l.headD 0≠45∧l.headD 0≠43:=by
 have:=head_dig h
 have hd:l.headD 0≠45:=by intro e; rw[e]at this; exact absurd this (by decide)
 have hp:l.headD 0≠43:=by intro e; rw[e]at this; exact absurd this (by decide)
 refine ⟨?_,?_,hd,hp⟩
 ·unfold canonB; rw[if_neg hd]; exact h
 ·unfold sval; rw[if_neg hd]
theorem canonU_big {t:List UInt8} (h:canonU t=true) (hl:16 < t.length):9007199254740992 < decVal 0 t:=by
 obtain ⟨h1,h2,h3⟩:=canonU_parts h
 cases t with
 | nil=>exact absurd rfl h2
 | cons c r =>
  simp only[List.all_cons,Bool.and_eq_true]at h1
  have hc:48≤c.toNat∧c.toNat≤57:=by simpa [isDig] using h1.1
  have hz:c≠48:=by
   rcases h3 with h3 | h3
   ·simpa using h3
   ·simp at h3; subst h3; simp at hl
  have hz':c.toNat≠48:=fun e=>hz (by apply UInt8.toNat_inj.1; rw[e]; rfl)
  have hp:=decVal_pow (0*10+(c.toNat - 48)) r
  have hpow:10 ^ 16≤10 ^ r.length:=Nat.pow_le_pow_right (by decide) (by simp at hl; omega)
  have:1*10 ^ 16≤(0*10+(c.toNat - 48))*10 ^ r.length:=Nat.mul_le_mul (by omega) hpow
  rw[decVal_cons]
  omega
theorem parseIntB_canon {l:List UInt8} (h:canonB l=true) :
  Lib.parseIntB 64 l=if -9223372036854775808≤sval l∧sval l≤9223372036854775807 then .ok (sval l) else .range:=by
 cases l with
 | nil=>simp[canonB,canonU]at h
 | cons c r =>
  by_cases hc:c=45
  ·subst hc
   have hu:canonU r=true:=by simp[canonB]at h; exact h.2
   obtain ⟨h1,h2,_⟩:=canonU_parts hu
   have hp:Lib.parseUintB 64 r=(if decVal 0 r≤18446744073709551615 then .ok (decVal 0 r) else .range):=by unfold Lib.parseUintB; rw[if_neg h2]; exact parseUintM_dig 0 r h1 (by omega)
   have hs:sval (45::r)=-(decVal 0 r:Int):=by simp[sval]
   simp only[Lib.parseIntB,show (45:UInt8).toNat=45 from rfl,hs]
   simp only[or_true,if_true,hp]
   by_cases hb:decVal 0 r≤18446744073709551615
   ·simp only[hb,if_true]
    by_cases hb2:decVal 0 r≤9223372036854775808
    ·simp[Nat.not_lt.2 hb2]; omega
    ·simp[Nat.not_le.1 hb2]; omega
   ·simp only[hb,if_false]; rw[if_neg (by omega)]
  ·have hu:canonU (c::r)=true:=by simpa [canonB,hc] using h
   obtain ⟨h1,h2,_⟩:=canonU_parts hu
   obtain ⟨_,hs,_,h43⟩:=canonB_pos hu
   have e45:¬ c.toNat=45:=fun e=>hc (by apply UInt8.toNat_inj.1; rw[e]; rfl)
   have e43:¬ c.toNat=43:=fun e=>h43 (by apply UInt8.toNat_inj.1; simp[e])
   have hp:Lib.parseUintB 64 (c::r)=(if decVal 0 (c::r)≤18446744073709551615 then .ok (decVal 0 (c::r)) else .range):=by unfold Lib.parseUintB; rw[if_neg h2]; exact parseUintM_dig 0 (c::r) h1 (by omega)
   rw[hs]
   simp only[Lib.parseIntB,e45,e43,or_self,if_false,hp]
   by_cases hb:decVal 0 (c::r)≤18446744073709551615
   ·simp only[hb,if_true]
    by_cases hb2:decVal 0 (c::r) < 9223372036854775808
    ·simp[Nat.not_le.2 hb2]; omega
    ·simp[Nat.not_lt.1 hb2]; omega
   ·simp only[hb,if_false]; rw[if_neg (by omega)]
theorem dig_back {c:UInt8} (h:isDig c=true):UInt8.ofNat (48+(c.toNat - 48))=c:=by
 have hc:48≤c.toNat∧c.toNat≤57:=by simpa [isDig] using h
 rw[show 48+(c.toNat - 48)=c.toNat by omega]; simp
theorem canonU_digits:∀ (n:Nat) (t:List UInt8),t.length=n→canonU t=true→Lib.decDigits (decVal 0 t)=t:=by
 intro n
 induction n with
 | zero=>intro t hl h; have:=canonU_parts h; cases t <;> simp_all
 | succ n ih =>
  intro t hl h
  obtain ⟨h1,h2,h3⟩:=canonU_parts h
  rcases List.eq_nil_or_concat t with e | ⟨s,c,e⟩
  ·exact absurd e h2
  ·rw[List.concat_eq_append]at e
   subst e
   simp only[List.all_append,List.all_cons,List.all_nil,Bool.and_true,Bool.and_eq_true]at h1
   have hc:48≤c.toNat∧c.toNat≤57:=by simpa [isDig] using h1.2
   have hd:=dig_back h1.2
   rw[decVal_snoc]
   cases s with
   | nil =>
    simp only[decVal_nil,List.nil_append,Nat.zero_mul,Nat.zero_add]
    rw[Lib.decDigits_one (by omega),hd]
   | cons a s' =>
    have ha:a≠48:=by
     rcases h3 with h3 | h3
     ·simpa using h3
     ·simp at h3
    have ha2:isDig a=true:=by simp only[List.all_cons,Bool.and_eq_true]at h1; exact h1.1.1
    have ha3:48≤a.toNat∧a.toNat≤57:=by simpa [isDig] using ha2
    have ha4:a.toNat≠48:=fun e=>ha (by apply UInt8.toNat_inj.1; rw[e]; rfl)
    have hp:1≤decVal 0 (a::s'):=Nat.le_trans (by omega) (decVal_le (0*10+(a.toNat - 48)) s')
    have hu:canonU (a::s')=true:=by simp only[canonU,h1.1]; simp[ha]
    have:=ih (a::s') (by simp at hl ⊢; omega) hu
    rw[Lib.decDigits,dif_neg (by omega)]
    rw[show (decVal 0 (a::s')*10+(c.toNat - 48)) / 10=decVal 0 (a::s') by omega,show (decVal 0 (a::s')*10+(c.toNat - 48)) % 10=c.toNat - 48 by omega,this,hd]
theorem isDig_of (k:Nat) (h:k < 10):isDig (UInt8.ofNat (48+k))=true∧(UInt8.ofNat (48+k)).toNat=48+k:=by
 have:(UInt8.ofNat (48+k)).toNat=48+k:=by simp[UInt8.toNat_ofNat']; omega
 exact ⟨by unfold isDig; rw[this]; simp; omega,this⟩
theorem decDigits_canon:∀ (n u:Nat),u≤n→canonU (Lib.decDigits u)=true∧decVal 0 (Lib.decDigits u)=u∧(1≤u→(Lib.decDigits u).headD 0≠48):=by
 intro n
 induction n with
 | zero =>
  intro u hu
  obtain rfl:u=0:=by omega
  rw[Lib.decDigits_one (by omega)]
  exact ⟨by decide,by decide,by omega⟩
 | succ n ih =>
  intro u hu
  by_cases h:u < 10
  ·rw[Lib.decDigits_one h]
   obtain ⟨h1,h2⟩:=isDig_of u h
   generalize UInt8.ofNat (48+u)=x at *
   refine ⟨by simp[canonU,h1],by simp only[decVal_cons,decVal_nil,h2]; omega,fun h0 e=>?_⟩
   have e':x=48:=e
   rw[e']at h2
   have:(48:UInt8).toNat=48:=rfl
   omega
  ·obtain ⟨h1,h2,h3⟩:=ih (u / 10) (by omega)
   obtain ⟨h4,h5⟩:=isDig_of (u % 10) (by omega)
   have h3':=h3 (by omega)
   rw[Lib.decDigits,dif_neg h]
   obtain ⟨p1,p2,_⟩:=canonU_parts h1
   have hh:(Lib.decDigits (u / 10)++[UInt8.ofNat (48+u % 10)]).headD 0=(Lib.decDigits (u / 10)).headD 0:=by
    cases hd:Lib.decDigits (u / 10) with
    | nil=>exact absurd hd p2
    | cons a b=>rfl
   refine ⟨?_,?_,fun _=>by rw[hh]; exact h3'⟩
   ·simp only[canonU,Bool.and_eq_true,Bool.or_eq_true]
    exact ⟨⟨by simp only[List.all_append,p1,List.all_cons,h4,List.all_nil,Bool.and_true],by simp⟩,.inl (by rw[hh]; simpa using h3')⟩
   ·rw[decVal_snoc,h2,h5]; omega
theorem itoa_canon (n:Int):canonB (Lib.itoa n)=true∧sval (Lib.itoa n)=n:=by
 unfold Lib.itoa
 split
 ·rename_i hn
  obtain ⟨h1,h2,h3⟩:=decDigits_canon n.natAbs n.natAbs (Nat.le_refl _)
  have h3':=h3 (by omega)
  refine ⟨?_,by simp[sval,h2]; omega⟩
  simp only[canonB,List.headD_cons,if_true,List.tail_cons,h1,Bool.and_true]
  have:Lib.decDigits n.natAbs≠[48]:=by intro e; rw[e]at h3'; exact h3' rfl
  simpa using this
 ·rename_i hn
  obtain ⟨h1,h2,_⟩:=decDigits_canon n.toNat n.toNat (Nat.le_refl _)
  obtain ⟨q1,q2,_⟩:=canonB_pos h1
  exact ⟨q1,by rw[q2,h2]; omega⟩
theorem canon_itoa {l:List UInt8} (h:canonB l=true):Lib.itoa (sval l)=l:=by
 unfold canonB at h
 split at h
 ·rename_i hc
  simp only[Bool.and_eq_true]at h
  cases l with
  | nil=>exact absurd hc (by decide)
  | cons c r =>
   obtain rfl:c=45:=hc
   have hr:canonU r=true:=h.2
   have hd:=canonU_digits _ r rfl hr
   have hpos:1≤decVal 0 r:=by
    rcases Nat.eq_zero_or_pos (decVal 0 r) with e | e
    ·rw[e,Lib.decDigits_one (by omega)]at hd
     exact absurd h.1 (by rw[List.tail_cons,← hd]; decide)
    ·exact e
   have hs:sval (45::r)=-(decVal 0 r:Int):=by simp[sval]
   rw[hs]; unfold Lib.itoa; rw[if_pos (by omega)]
   rw[show (-(decVal 0 r:Int)).natAbs=decVal 0 r by omega,hd]
 ·rename_i hc
  have hd:=canonU_digits _ l rfl h
  obtain ⟨_,hs,_⟩:=canonB_pos h
  rw[hs]; unfold Lib.itoa; rw[if_neg (by omega)]
  rw[show (decVal 0 l:Int).toNat=decVal 0 l by omega,hd]
theorem isDig_iff (c:UInt8):isDig c=true ↔ 48≤(c.toNat:Int)∧(c.toNat:Int)≤57:=by unfold isDig; rw[decide_eq_true_iff]; omega
theorem take_all_snoc (t:ByteArray) (k:Nat) (h:k < t.size):(t.data.toList.take (k+1)).all isDig=((t.data.toList.take k).all isDig && isDig t[k]):=by
 rw[List.take_succ_eq_append_getElem (by simpa using h),List.all_append]
 simp; rfl
theorem all_of_take (t:ByteArray) (k:Nat) (h:¬ k < t.size) (ha:(t.data.toList.take k).all isDig=true):t.data.toList.all isDig=true:=by
 rw[List.take_of_length_le (by simp; exact Nat.le_of_not_lt h)]at ha; exact ha
theorem not_all (t:ByteArray) (k:Nat) (h:k < t.size) (hb:isDig t[k]=false):t.data.toList.all isDig=false:=by
 rw[List.all_eq_false]
 exact ⟨t[k],by simp[ByteArray.getElem_eq_getElem_data],by simp[hb]⟩
theorem canonU_bad {l:List UInt8} (h:l.all isDig=false):canonU l=false:=by simp only[canonU,h,Bool.false_and]
theorem headD_data (t:ByteArray) (h:0 < t.size):t.data.toList.headD 0=t[0]:=by
 have hl:0 < t.data.toList.length:=by rw[Array.length_toList,ByteArray.size_data]; exact h
 rw[List.headD_eq_head?_getD,List.head?_eq_getElem?,List.getElem?_eq_getElem hl]
 rfl
theorem canonU_empty (t:ByteArray) (h:¬ 0 < t.size):canonU t.data.toList=false:=by
 have:t.data.toList=[]:=List.eq_nil_of_length_eq_zero (by rw[Array.length_toList,ByteArray.size_data]; omega)
 rw[this]; rfl
theorem canonU_full (t : ByteArray) (h : 0 < t.size) (ha : t.data.toList.all isDig = true) : canonU t.data.toList = (decide (t[0] ≠ 48) || decide (t.size = 1)) := by
  have hn : t.data.toList.isEmpty = false := by
    cases hl : t.data.toList with
    | nil => have : t.data.toList.length = 0 := by rw [hl]; rfl
             rw [Array.length_toList, ByteArray.size_data] at this; omega
    | cons a b => rfl
  simp only [canonU, ha, hn, headD_data t h, Array.length_toList, ByteArray.size_data, Bool.true_and, Bool.not_false]
  congr 1
  by_cases e : t[0] = 48 <;> simp [e]
theorem toNat_int (c:UInt8) (k:Nat) (hk:k < 256):c=UInt8.ofNat k ↔ (c.toNat:Int)=k:=by
 constructor
 ·rintro rfl; simp; omega
 ·intro h; apply UInt8.toNat_inj.1; simp; omega
theorem data_ne (t : ByteArray) (h : 0 < t.size) : t.data.toList.isEmpty = false := by
  cases hl : t.data.toList with
  | nil => have : t.data.toList.length = 0 := by rw [hl]; rfl
           rw [Array.length_toList, ByteArray.size_data] at this; omega
  | cons a b => rfl
theorem data_none (t:ByteArray) (h:¬ 0 < t.size):t.data.toList.isEmpty=true:=by
 have:t.data.toList=[]:=List.eq_nil_of_length_eq_zero (by rw[Array.length_toList,ByteArray.size_data]; omega)
 rw[this]; rfl
theorem canonB_none (t:ByteArray) (h:¬ 0 < t.size):canonB t.data.toList=false:=by
 have:t.data.toList=[]:=List.eq_nil_of_length_eq_zero (by rw[Array.length_toList,ByteArray.size_data]; omega)
 rw[this]; rfl
theorem canonB_zero {l:List UInt8} (h:l.headD 0=45) (h2:l.tail=[48]):canonB l=false:=by
 unfold canonB; rw[if_pos h,h2]; rfl
theorem canonB_minus {l:List UInt8} (h:l.headD 0=45) (h2:¬ l.tail=[48]):canonB l=canonU l.tail:=by
 unfold canonB; rw[if_pos h]; simp[h2]
theorem canonB_plus {l:List UInt8} (h:¬ l.headD 0=45):canonB l=canonU l:=by
 unfold canonB; rw[if_neg h]
theorem canonU_one {l:List UInt8} (h:l=[48]):canonU l=true:=by rw[h]; rfl
theorem canonU_other (t:ByteArray) (h:0 < t.size) (ha:t.data.toList.all isDig=true) (hn:¬ t.data.toList=[48]):canonU t.data.toList=decide (t[0]≠48):=by
 rw[canonU_full t h ha]
 by_cases e:t[0]=48
 ·have:¬ t.size=1:=by
   intro h1
   apply hn
   have hl:t.data.toList.length=1:=by rw[Array.length_toList,ByteArray.size_data]; exact h1
   have hh:=headD_data t h
   rw[e]at hh
   match hm:t.data.toList,hl with
   | [a],_=>rw[hm]at hh; simp at hh; rw[hh]
  simp[e,this]
 ·simp[e]
def parse (l:List UInt8):Int×Int:=if canonB l then right (sval l) else (0,2)
def canonUB (s:ByteArray):Bool:=canonU s.data.toList
def parseB (s:ByteArray):Int×Int:=parse s.data.toList
def decB (t:ByteArray) (k:Nat):Nat:=decVal 0 (t.data.toList.take k)
theorem decB_succ (t:ByteArray) (k:Nat) (h:k < t.size):decB t (k+1)=decB t k*10+(t[k].toNat - 48):=by
 unfold decB
 rw[List.take_succ_eq_append_getElem (by simpa using h),decVal_snoc]; rfl
theorem take_dig {t:ByteArray} (h:t.data.toList.all isDig=true) (k:Nat):(t.data.toList.take k).all isDig=true:=by
 rw[List.all_eq_true]at h ⊢
 exact fun x hx=>h x (List.mem_of_mem_take hx)
theorem decB_bd {t:ByteArray} (h:t.data.toList.all isDig=true) (k:Nat) (hk:k≤16):decB t k < 10000000000000000:=by
 have h1:=decVal_lt 0 (t.data.toList.take k) (take_dig h k)
 have h2:(t.data.toList.take k).length≤16:=Nat.le_trans (List.length_take_le _ _) hk
 have h3:10 ^ (t.data.toList.take k).length≤10 ^ 16:=Nat.pow_le_pow_right (by decide) h2
 unfold decB; omega
theorem decB_all (t:ByteArray):decB t t.size=decVal 0 t.data.toList:=by
 unfold decB; rw[List.take_of_length_le (by simp)]
theorem dig_at {t:ByteArray} (h:t.data.toList.all isDig=true) (k:Nat) (hk:k < t.size):48≤(t[k].toNat:Int)∧(t[k].toNat:Int)≤57:=by
 rw[List.all_eq_true]at h
 exact (isDig_iff _).1 (h t[k] (by simp[ByteArray.getElem_eq_getElem_data]))
structure Behind (s t:ByteArray) (minus:Bool):Prop where
 bad:canonUB t=false→parseB s=(0,2)
 zero:minus=true→t.data.toList=[48]→parseB s=(0,2)
 good:canonUB t=true→(minus=true→¬ t.data.toList=[48])→parseB s=right (if minus then -(decVal 0 t.data.toList:Int) else decVal 0 t.data.toList)
theorem behind_minus {s t:ByteArray} (h:s.data.toList.headD 0=45) (ht:t.data.toList=s.data.toList.tail):Behind s t true:=by
 constructor
 ·intro hb
  unfold canonUB at hb
  have:canonB s.data.toList=false:=by unfold canonB; rw[if_pos h,← ht,hb]; simp
  simp[parseB,parse,this]
 ·intro _ hz
  have:canonB s.data.toList=false:=by unfold canonB; rw[if_pos h,← ht,hz]; rfl
  simp[parseB,parse,this]
 ·intro hg hz
  unfold canonUB at hg
  have:canonB s.data.toList=true:=by unfold canonB; rw[if_pos h,← ht,hg]; simp[hz rfl]
  simp only[parseB,parse,this,if_true,sval,h,← ht]
theorem behind_plus {s:ByteArray} (h:¬ s.data.toList.headD 0=45):Behind s s false:=by
 constructor
 ·intro hb
  unfold canonUB at hb
  have:canonB s.data.toList=false:=by unfold canonB; rw[if_neg h,hb]
  simp[parseB,parse,this]
 ·intro h; cases h
 ·intro hg _
  unfold canonUB at hg
  have:canonB s.data.toList=true:=by unfold canonB; rw[if_neg h,hg]
  simp only[parseB,parse,this,if_true,sval,if_neg h]; rfl
theorem canonUB_dig {t:ByteArray} (h:canonUB t=true):t.data.toList.all isDig=true:=(canonU_parts h).1
theorem canonUB_big {t:ByteArray} (h:canonUB t=true) (hl:16 < t.size):9007199254740992 < decVal 0 t.data.toList:=canonU_big h (by rw[Array.length_toList,ByteArray.size_data]; exact hl)
theorem right_big (minus:Bool) {n:Nat} (h:9007199254740992 < n):right (if minus then -(n:Int) else n)=(0,5):=by
 have:validB (if minus then -(n:Int) else n)=false:=validB_no (by cases minus <;> simp <;> omega)
 simp only[right,this]; rfl
theorem div_cases (a b:Int):(div a b=(0,1)∧mod a b=(0,1)∧(validB a=false∨validB b=false))∨(div a b=(0,15)∧mod a b=(0,15)∧b=0) ∨
  (div a b=(a.fdiv b,0)∧mod a b=(a.fmod b,0)∧b≠0∧validB (a.fdiv b)=true∧validB (a.fmod b)=true∧(0 < b→0≤a.fmod b∧a.fmod b < b)∧(b < 0→a.fmod b≤0∧b < a.fmod b)∧a.fdiv b*b=a - a.fmod b):=by
 cases ha:validB a with
 | false=>exact .inl ⟨by simp[div,ha],by simp[mod,ha],.inl rfl⟩
 | true =>
  cases hb:validB b with
  | false=>exact .inl ⟨by simp[div,hb],by simp[mod,hb],.inr rfl⟩
  | true =>
   by_cases h0:b=0
   ·subst h0; exact .inr (.inl ⟨by simp[div,ha,hb],by simp[mod,ha,hb],rfl⟩)
   ·have h1:=(validB_iff a).1 ha
    have h2:=(validB_iff b).1 hb
    obtain ⟨h3,h3'⟩:=fmod_sign a b
    have h4:=Int.fmod_def a b
    rw[Int.mul_comm]at h4
    have h5:=fdiv_bd b h0 h1
    have h6:-9007199254740992≤a.fdiv b:=by
     rcases Int.lt_or_gt_of_ne (show a.fdiv b≠-9007199254740993 from fun e=>by
      rw[e]at h4
      rcases Int.lt_or_gt_of_ne h0 with hb0 | hb0
      ·have:=h3' hb0; omega
      ·have:=h3 hb0; omega) with h | h <;> omega
    refine .inr (.inr ⟨by simp[div,ha,hb,h0],by simp[mod,ha,hb,h0],h0,validB_mk h6 h5.2,?_,h3,h3',by omega⟩)
    rcases Int.lt_or_gt_of_ne h0 with hb0 | hb0
    ·have:=h3' hb0; exact validB_mk (by omega) (by omega)
    ·have:=h3 hb0; exact validB_mk (by omega) (by omega)
theorem right_cases (n:Int):(right n=(n,0)∧validB n=true)∨right n=(0,5):=by
 cases h:validB n with
 | true=>exact .inl ⟨by simp[right,h],rfl⟩
 | false=>exact .inr (by simp[right,h])
theorem inv_add (a b:Int):(∃ e:Int,(e == 0)=false∧add a b=(0,e))∨∃ c,add a b=(c,0)∧sub c b=(a,0):=by
 cases ha:validB a with
 | false=>exact .inl ⟨1,rfl,by simp[add,ha]⟩
 | true =>
  cases hb:validB b with
  | false=>exact .inl ⟨1,rfl,by simp[add,hb]⟩
  | true =>
   have e:add a b=right (a+b):=by simp[add,ha,hb]
   rcases right_cases (a+b) with ⟨h1,h2⟩ | h1
   ·refine .inr ⟨a+b,by rw[e,h1],?_⟩
    have:a+b - b=a:=by omega
    simp[sub,h2,hb,this,right,ha]
   ·exact .inl ⟨5,rfl,by rw[e,h1]⟩
theorem inv_mul (a b:Int):(∃ e:Int,(e == 0)=false∧mul a b=(0,e))∨∃ d,mul a b=(d,0)∧(b=0∨b≠0∧div d b=(a,0)∧mod d b=(0,0)):=by
 cases ha:validB a with
 | false=>exact .inl ⟨1,rfl,by simp[mul,ha]⟩
 | true =>
  cases hb:validB b with
  | false=>exact .inl ⟨1,rfl,by simp[mul,hb]⟩
  | true =>
   have e:mul a b=right (a*b):=by simp[mul,ha,hb]
   rcases right_cases (a*b) with ⟨h1,h2⟩ | h1
   ·refine .inr ⟨a*b,by rw[e,h1],?_⟩
    by_cases h0:b=0
    ·exact .inl h0
    ·refine .inr ⟨h0,?_,?_⟩
     ·simp[div,h2,hb,h0,Int.mul_fdiv_cancel _ h0]
     ·simp[mod,h2,hb,h0,Int.mul_fmod_left]
   ·exact .inl ⟨5,rfl,by rw[e,h1]⟩
theorem bad_all {a b:Int} (h:validB a=false∨validB b=false):add a b=(0,1)∧sub a b=(0,1)∧mul a b=(0,1)∧div a b=(0,1)∧mod a b=(0,1):=by
 rcases h with h | h <;> simp[add,sub,mul,div,mod,h]
theorem good_all {a b:Int} (ha:validB a=true) (hb:validB b=true):((∃ v,add a b=(v,0))∨add a b=(0,5))∧((∃ v,sub a b=(v,0))∨sub a b=(0,5))∧((∃ v,mul a b=(v,0))∨mul a b=(0,5)):=by
 have e1:add a b=right (a+b):=by simp[add,ha,hb]
 have e2:sub a b=right (a - b):=by simp[sub,ha,hb]
 have e3:mul a b=right (a*b):=by simp[mul,ha,hb]
 rw[e1,e2,e3]
 have k:∀ n:Int,(∃ v,right n=(v,0))∨right n=(0,5):=fun n=>(right_cases n).elim (fun h=>.inl ⟨n,h.1⟩) .inr
 exact ⟨k _,k _,k _⟩
theorem zero_all {a:Int} (ha:validB a=true):add a 0=(a,0)∧sub a 0=(a,0)∧mul a 0=(0,0)∧div a 0=(0,15)∧mod a 0=(0,15):=by
 have h0:validB 0=true:=by decide
 simp[add,sub,mul,div,mod,right,ha,h0]
end Go.Proofs.YtpidpioifnnllaaGreatDoor.NumPlain
namespace Go.Proofs.YtpidpioifnnllaaGreatDoor
open Go.RowKit
set_option maxHeartbeats 400000 in
theorem qce (n:Int) (w:World) :
  Calls Tryz.prog 73 #[.int .i64 n] w fun e w'=>e=.returned (.bool (NumPlain.validB n))∧w=w':=by
 by_cases h1:-9007199254740992≤n <;> by_cases h2:n≤9007199254740992
 all_goals
  go_enter Tryz.func73,Tryz.ntmps73
  go_wp2
  go_ret
  exact ⟨by simp[NumPlain.validB, *],rfl⟩
set_option maxHeartbeats 400000 in
theorem q3q (n:Int) (w:World) :
  Calls Tryz.prog 81 #[.int .i64 n] w fun e w'=>e=.returned (.bool (NumPlain.validB n))∧w=w':=by
 by_cases h1:-9007199254740992≤n <;> by_cases h2:n≤9007199254740992
 all_goals
  go_enter Tryz.func81,Tryz.ntmps81
  go_wp2
  go_ret
  exact ⟨by simp[NumPlain.validB, *],rfl⟩
end Go.Proofs.YtpidpioifnnllaaGreatDoor
namespace Go.Proofs.YtpidpioifnnllaaGreatDoor
open Go.RowKit
theorem toList_data (s:ByteArray):s.toList=s.data.toList:=ByteArray.toList_eq s
set_option maxHeartbeats 800000 in
theorem qdh (s:ByteArray) (w:World) (hs:s.size≤maxLen) :
  Calls Tryz.prog 120 #[.string s] w fun e w'=>e=.returned (.bool (NumPlain.canonB s.data.toList))∧w=w':=by
 unfold maxLen at hs
 have key:∀ (t:ByteArray) (b:Bool),(NumPlain.canonB s.data.toList=NumPlain.canonU t.data.toList)→NumPlain.canonU t.data.toList=b→NumPlain.canonB s.data.toList=b:=fun t b h1 h2=>h1.trans h2
 by_cases h0:0 < s.size
 ·by_cases h1:(s[0].toNat:Int)=45
  ·have t1:((s[0].toNat:Int) == 45)=true:=by simpa using h1
   have hd:s.data.toList.headD 0=45:=by rw[NumPlain.headD_data s h0]; exact (NumPlain.toNat_int s[0] 45 (by decide)).2 h1
   by_cases h2:(s.extract 1 s.size).toList=[48]
   ·have t2:((s.extract 1 s.size).toList == [48])=true:=by simpa using h2
    have HC:Hid (NumPlain.canonB s.data.toList=false):=NumPlain.canonB_zero hd (by rw[toList_data,Lib.extract_to_end]at h2; rw[← List.drop_one]; exact h2)
    clear h1 h2 hd key
    go_enter Tryz.func120,Tryz.ntmps120
    go_wp2
    go_ret
    exact ⟨by rw[HC.out]; rfl,rfl⟩
   ·have t2:((s.extract 1 s.size).toList == [48])=false:=by simpa using h2
    have hsz:(s.extract 1 s.size).size=s.size - 1:=by simp
    have HK:=Lib.hid (fun b=>key (s.extract 1 s.size) b (by rw[Lib.extract_to_end,List.drop_one]; exact NumPlain.canonB_minus hd (by rw[toList_data,Lib.extract_to_end,List.drop_one]at h2; exact h2)))
    clear h1 h2 hd key
    go_enter Tryz.func120,Tryz.ntmps120
    go_wp2
    rw[← hsz]
    have hle:(s.extract 1 s.size).size≤2 ^ 63 - 1:=by omega
    clear t2 hsz
    generalize s.extract 1 s.size=t at *
    go_loop [18] (fun i=>∃ k:Nat,k≤t.size∧i=.int .i64 k∧(t.data.toList.take k).all NumPlain.isDig=true) (fun i=>t.size - (intOf i).toNat)
    case atStart=>exact ⟨0,Nat.zero_le _,rfl,rfl⟩
    case round =>
     obtain ⟨k,hk,rfl,hall⟩:=hrel
     have HA:=Lib.hid hall
     clear hall
     by_cases hlt:k < t.size
     ·have hd:=NumPlain.isDig_iff t[k]
      cases hdg:NumPlain.isDig t[k]
      ·have HF:=Lib.hid (HK.out _ (NumPlain.canonU_bad (NumPlain.not_all t k hlt hdg)))
       rw[hdg]at hd
       by_cases hlo:48≤(t[k].toNat:Int)
       ·have hhi:57 < (t[k].toNat:Int):=by
         have:=mt hd.2 (by decide)
         omega
        clear hd hdg
        go_wp2
        go_ret
        exact ⟨by rw[HF.out]; rfl,rfl⟩
       ·have hlo':(t[k].toNat:Int) < 48:=by omega
        clear hd hdg hlo
        go_wp2
        go_ret
        exact ⟨by rw[HF.out]; rfl,rfl⟩
      ·have HS:=Lib.hid (NumPlain.take_all_snoc t k hlt)
       have HD:=Lib.hid hdg
       rw[hdg]at hd
       obtain ⟨hlo,hhi⟩:=hd.1 rfl
       clear hd hdg
       go_wp2
       go_round
       case rel=>exact ⟨k+1,by omega,by go_num,by rw[HS.out,HA.out,HD.out]; rfl⟩
       case measure=>simp[intOf]; omega
     ·obtain rfl:k=t.size:=by omega
      have hall:=NumPlain.all_of_take t _ hlt HA.out
      by_cases e0:0 < t.size
      ·have HF:=Lib.hid (HK.out _ (NumPlain.canonU_full t e0 hall))
       have t3:t.toList.isEmpty=false:=by rw[toList_data t]; exact NumPlain.data_ne t e0
       have hz:=NumPlain.toNat_int t[0] 48 (by decide)
       by_cases hz0:(t[0].toNat:Int)=48
       ·have t4:((t[0].toNat:Int) != 48)=false:=by simpa using hz0
        have HZ:=Lib.hid (hz.2 hz0)
        clear hz hz0 hall
        by_cases h1:t.size=1
        ·have t5:((t.size:Int) == 1)=true:=by simpa using (show (t.size:Int)=1 by omega)
         have HO:=Lib.hid h1
         clear h1
         go_wp2
         go_ret
         exact ⟨by rw[HF.out]; simp[HO.out],rfl⟩
        ·have t5:((t.size:Int) == 1)=false:=by simpa using (show ¬ (t.size:Int)=1 by omega)
         have HO:=Lib.hid h1
         clear h1
         go_wp2
         go_ret
         exact ⟨by rw[HF.out,HZ.out]; simp[HO.out],rfl⟩
       ·have t4:((t[0].toNat:Int) != 48)=true:=by simpa using hz0
        have HZ:=Lib.hid (mt hz.1 hz0)
        clear hz hz0 hall
        go_wp2
        go_ret
        exact ⟨by rw[HF.out]; simp[show ¬ t[0]=48 from HZ.out],rfl⟩
      ·have HF:=Lib.hid (HK.out _ (NumPlain.canonU_empty t e0))
       have t3:t.toList.isEmpty=true:=by rw[toList_data t]; exact NumPlain.data_none t e0
       clear hall
       go_wp2
       go_ret
       exact ⟨by rw[HF.out]; rfl,rfl⟩
  ·have t1:((s[0].toNat:Int) == 45)=false:=by simpa using h1
   have HK:=Lib.hid (fun b=>key s b (NumPlain.canonB_plus (by rw[NumPlain.headD_data s h0]; exact mt (NumPlain.toNat_int s[0] 45 (by decide)).1 h1)))
   clear h1 key
   go_enter Tryz.func120,Tryz.ntmps120
   go_wp2
   generalize hst:s=t at *
   subst hst
   go_loop [18] (fun i=>∃ k:Nat,k≤s.size∧i=.int .i64 k∧(s.data.toList.take k).all NumPlain.isDig=true) (fun i=>s.size - (intOf i).toNat)
   case atStart=>exact ⟨0,Nat.zero_le _,rfl,rfl⟩
   case round =>
    obtain ⟨k,hk,rfl,hall⟩:=hrel
    have HA:=Lib.hid hall
    clear hall
    by_cases hlt:k < s.size
    ·have hd:=NumPlain.isDig_iff s[k]
     cases hdg:NumPlain.isDig s[k]
     ·have HF:=Lib.hid (HK.out _ (NumPlain.canonU_bad (NumPlain.not_all s k hlt hdg)))
      rw[hdg]at hd
      by_cases hlo:48≤(s[k].toNat:Int)
      ·have hhi:57 < (s[k].toNat:Int):=by
        have:=mt hd.2 (by decide)
        omega
       clear hd hdg
       go_wp2
       go_ret
       exact ⟨by rw[HF.out]; rfl,rfl⟩
      ·have hlo':(s[k].toNat:Int) < 48:=by omega
       clear hd hdg hlo
       go_wp2
       go_ret
       exact ⟨by rw[HF.out]; rfl,rfl⟩
     ·have HS:=Lib.hid (NumPlain.take_all_snoc s k hlt)
      have HD:=Lib.hid hdg
      rw[hdg]at hd
      obtain ⟨hlo,hhi⟩:=hd.1 rfl
      clear hd hdg
      go_wp2
      go_round
      case rel=>exact ⟨k+1,by omega,by go_num,by rw[HS.out,HA.out,HD.out]; rfl⟩
      case measure=>simp[intOf]; omega
    ·obtain rfl:k=s.size:=by omega
     have hall:=NumPlain.all_of_take s _ hlt HA.out
     by_cases e0:0 < s.size
     ·have HF:=Lib.hid (HK.out _ (NumPlain.canonU_full s e0 hall))
      have t3:s.toList.isEmpty=false:=by rw[toList_data s]; exact NumPlain.data_ne s e0
      have hz:=NumPlain.toNat_int s[0] 48 (by decide)
      by_cases hz0:(s[0].toNat:Int)=48
      ·have t4:((s[0].toNat:Int) != 48)=false:=by simpa using hz0
       have HZ:=Lib.hid (hz.2 hz0)
       clear hz hz0 hall
       by_cases h1:s.size=1
       ·have t5:((s.size:Int) == 1)=true:=by simpa using (show (s.size:Int)=1 by omega)
        have HO:=Lib.hid h1
        clear h1
        go_wp2
        go_ret
        exact ⟨by rw[HF.out]; simp[HO.out],rfl⟩
       ·have t5:((s.size:Int) == 1)=false:=by simpa using (show ¬ (s.size:Int)=1 by omega)
        have HO:=Lib.hid h1
        clear h1
        go_wp2
        go_ret
        exact ⟨by rw[HF.out,HZ.out]; simp[HO.out],rfl⟩
      ·have t4:((s[0].toNat:Int) != 48)=true:=by simpa using hz0
       have HZ:=Lib.hid (mt hz.1 hz0)
       clear hz hz0 hall
       go_wp2
       go_ret
       exact ⟨by rw[HF.out]; simp[show ¬ s[0]=48 from HZ.out],rfl⟩
     ·have HF:=Lib.hid (HK.out _ (NumPlain.canonU_empty s e0))
      have t3:s.toList.isEmpty=true:=by rw[toList_data s]; exact NumPlain.data_none s e0
      clear hall
      go_wp2
      go_ret
      exact ⟨by rw[HF.out]; rfl,rfl⟩
 ·have HF:Hid (NumPlain.canonB s.data.toList=false):=NumPlain.canonB_none s h0
  have t3:s.toList.isEmpty=true:=by rw[toList_data s]; exact NumPlain.data_none s h0
  clear key
  go_enter Tryz.func120,Tryz.ntmps120
  go_wp2
  go_loop [18] (fun i=>i=.int .i64 0) (fun _=>0)
  case atStart=>rfl
  case round =>
   obtain rfl:=hrel
   go_wp2
   go_ret
   exact ⟨by rw[HF.out]; rfl,rfl⟩
def Env (w : World) : Prop := Lib.TabIs Tryz.prog w "internal/strconv.uint64pow10" .u64 Lib.pow10Tab ∧ ∃ tp p, w.var? Tryz.prog "strconv.ErrRange" = some #[.iface tp p]
theorem var?_keep {P:Program} {w w':World} {n:String} {cs:Array Value} (h:Below w.heap.size w w') (hv:w.var? P n=some cs):w'.var? P n=some cs:=by
 unfold World.var? at hv ⊢
 cases hg:P.globalNamed n with
 | none=>rw[hg]at hv; exact hv
 | some g =>
  rw[hg]at hv
  simp only[Option.bind_some]at hv ⊢
  have hlt:g < w.heap.size:=by
   rcases Nat.lt_or_ge g w.heap.size with h | h
   ·exact h
   ·rw[Array.getElem?_eq_none h]at hv; simp at hv
  rw[h.block g hlt]; exact hv
theorem Env.keep {w w':World} (h:Env w) (hb:Below w.heap.size w w'):Env w' :=
 ⟨var?_keep hb h.1,let ⟨tp,p,hv⟩:=h.2; ⟨tp,p,var?_keep hb hv⟩⟩
theorem qfj {l:List UInt8} (h:NumPlain.canonB l=true) (hr:¬ (-9223372036854775808≤NumPlain.sval l∧NumPlain.sval l≤9223372036854775807)):NumPlain.parse l=(0,5):=by
 have hv:NumPlain.validB (NumPlain.sval l)=false:=NumPlain.validB_no (by omega)
 simp[NumPlain.parse,h,NumPlain.right,hv]
set_option maxHeartbeats 400000 in
theorem qun (s:ByteArray) (w:World) (hs:s.size≤281474976710656) (hE:Env w) :
  Calls Tryz.prog 98 #[.string s] w fun e w'=>e=.returned (.tuple #[.int .i64 (NumPlain.parseB s).1,.int .i64 (NumPlain.parseB s).2])∧Below w.heap.size w w':=by
 have HE:=Lib.hid hE
 clear hE
 cases hc:NumPlain.canonB s.data.toList with
 | false =>
  have HP:Hid (NumPlain.parseB s=(0,2)):=by simp[Hid,NumPlain.parseB,NumPlain.parse,hc]
  go_enter Tryz.func98,Tryz.ntmps98
  go_wp2_with (go_at_call 120; refine (qdh _ _ (by unfold maxLen; omega)).mono ?_; rintro e w' ⟨rfl,rfl⟩)
  go_ret2
  exact ⟨by rw[HP.out]; rfl,Below.refl _ _⟩
 | true =>
  by_cases hr:-9223372036854775808≤NumPlain.sval s.data.toList∧NumPlain.sval s.data.toList≤9223372036854775807
  ·have hp:Lib.parseIntB 64 s.data.toList=.ok (NumPlain.sval s.data.toList):=by rw[NumPlain.parseIntB_canon hc,if_pos hr]
   have HP:=Lib.hid (show NumPlain.parseB s=NumPlain.right (NumPlain.sval s.data.toList) by simp[NumPlain.parseB,NumPlain.parse,hc])
   have HO:=Lib.hid hp
   clear hp
   generalize NumPlain.sval s.data.toList=v at *
   cases hv:NumPlain.validB v
   all_goals
    have HR:=Lib.hid (show NumPlain.right v=_ by simp only[NumPlain.right,hv]; rfl)
    go_enter Tryz.func98,Tryz.ntmps98
    go_wp2_with (go_at_call 120; refine (qdh _ _ (by unfold maxLen; omega)).mono ?_; rintro e w' ⟨rfl,rfl⟩)
    refine (Tryz.strconv_ParseInt_10_at64_ok s (by omega) v HO.out w).mono ?_
    rintro e w1 ⟨rfl,hw1⟩
    have hb:Below w.heap.size w w1:=by
     rcases hw1 with rfl | ⟨t,rfl⟩
     ·exact Below.refl _ _
     ·exact Lib.bytesWorld_below _ _ _
    have HB:=Lib.hid hb
    clear hw1 hb
    go_wp2_with (go_at_call 73; refine (qce _ _).mono ?_; rintro e w' ⟨rfl,rfl⟩)
    go_ret2
    exact ⟨by rw[HP.out,HR.out]; rfl,HB.out⟩
  ·have hp:Lib.parseIntB 64 s.data.toList=.range:=by rw[NumPlain.parseIntB_canon hc,if_neg hr]
   have HP:=Lib.hid (show NumPlain.parseB s=_ from qfj hc hr)
   have HO:=Lib.hid hp
   clear hp hr
   obtain ⟨_,tp,p,hvar⟩:=HE.out
   have HV:=Lib.hid hvar
   clear hvar
   go_enter Tryz.func98,Tryz.ntmps98
   go_wp2_with (go_at_call 120; refine (qdh _ _ (by unfold maxLen; omega)).mono ?_; rintro e w' ⟨rfl,rfl⟩)
   refine (Tryz.strconv_ParseInt_10_at64_range_var s hs HO.out tp p w HV.out).mono ?_
   rintro e w1 ⟨N,rfl,_,_,hb⟩
   have HB:=Lib.hid hb
   clear hb
   go_wp2_with (go_at_call 73; refine (qce _ _).mono ?_; rintro e w' ⟨rfl,rfl⟩)
   go_ret2
   exact ⟨by rw[HP.out]; rfl,HB.out⟩
open Go.Sort in
theorem qpl (w:World) (k:Nat) (os:Array Obj):Below w.heap.size w (grow (w.drewN k) os) :=
 ⟨rfl,rfl,rfl,by show w.heap.size≤(w.heap++os).size; rw[Array.size_append]; omega,fun j hj=>by
  show (w.heap++os)[j]?=w.heap[j]?
  rw[Array.getElem?_append_left hj]⟩
set_option maxHeartbeats 400000 in
theorem qre (n:Int) (w:World) (h0:-9223372036854775808≤n) (h1:n≤9223372036854775807) (hE:Env w) :
  Calls Tryz.prog 51 #[.int .i64 n] w fun e w'=>e=.returned (.string ⟨(Lib.itoa n).toArray⟩)∧Below w.heap.size w w':=by
 have HE:=Lib.hid hE.1
 clear hE
 go_enter Tryz.func51,Tryz.ntmps51
 go_wp2_with fail
 refine (Tryz.strconv_Itoa n h0 h1 w HE.out).mono ?_
 rintro e w1 ⟨rfl,k,os,rfl⟩
 have HB:=Lib.hid (qpl w k os)
 generalize Go.Sort.grow (w.drewN k) os=w1 at *
 go_wp2_with fail
 go_ret
 exact ⟨rfl,HB.out⟩
end Go.Proofs.YtpidpioifnnllaaGreatDoor
namespace Go.Proofs.YtpidpioifnnllaaGreatDoor
open Go.RowKit
set_option maxHeartbeats 400000 in
theorem q3x (s:ByteArray) (w:World) (hs:s.size≤maxLen) :
  Calls Tryz.prog 80 #[.string s] w fun e w'=>e=.returned (.bool (NumPlain.canonUB s))∧w=w':=by
 unfold maxLen at hs
 go_enter Tryz.func80,Tryz.ntmps80
 go_wp2
 go_loop [3] (fun i=>∃ k:Nat,k≤s.size∧i=.int .i64 k∧(s.data.toList.take k).all NumPlain.isDig=true) (fun i=>s.size - (intOf i).toNat)
 case atStart=>exact ⟨0,Nat.zero_le _,rfl,rfl⟩
 case round =>
  obtain ⟨k,hk,rfl,hall⟩:=hrel
  have HA:=Lib.hid hall
  clear hall
  by_cases hlt:k < s.size
  ·have hd:=NumPlain.isDig_iff s[k]
   cases hdg:NumPlain.isDig s[k]
   ·have HF:=Lib.hid (show NumPlain.canonUB s=false from NumPlain.canonU_bad (NumPlain.not_all s k hlt hdg))
    rw[hdg]at hd
    by_cases hlo:48≤(s[k].toNat:Int)
    ·have hhi:57 < (s[k].toNat:Int):=by
      have:=mt hd.2 (by decide)
      omega
     clear hd hdg
     go_wp2
     go_ret
     exact ⟨by rw[HF.out]; rfl,rfl⟩
    ·have hlo':(s[k].toNat:Int) < 48:=by omega
     clear hd hdg hlo
     go_wp2
     go_ret
     exact ⟨by rw[HF.out]; rfl,rfl⟩
   ·have HS:=Lib.hid (NumPlain.take_all_snoc s k hlt)
    have HD:=Lib.hid hdg
    rw[hdg]at hd
    obtain ⟨hlo,hhi⟩:=hd.1 rfl
    clear hd hdg
    go_wp2
    go_round
    case rel=>exact ⟨k+1,by omega,by go_num,by rw[HS.out,HA.out,HD.out]; rfl⟩
    case measure=>simp[intOf]; omega
  ·obtain rfl:k=s.size:=by omega
   have hall:=NumPlain.all_of_take s _ hlt HA.out
   by_cases h1:s.toList=[48]
   ·have t5:(s.toList == [48])=true:=by simpa using h1
    have HF:=Lib.hid (show NumPlain.canonUB s=true from NumPlain.canonU_one ((toList_data s).symm.trans h1))
    clear h1 hall
    go_wp2
    go_ret
    exact ⟨by rw[HF.out]; rfl,rfl⟩
   ·have t5:(s.toList == [48])=false:=by simpa using h1
    by_cases e0:0 < s.size
    ·have HF:=Lib.hid (show NumPlain.canonUB s=_ from NumPlain.canonU_other s e0 hall (by rw[← toList_data]; exact h1))
     have t3:s.toList.isEmpty=false:=by rw[toList_data s]; exact NumPlain.data_ne s e0
     have hz:=NumPlain.toNat_int s[0] 48 (by decide)
     by_cases hz0:(s[0].toNat:Int)=48
     ·have t4:((s[0].toNat:Int) != 48)=false:=by simpa using hz0
      have HZ:=Lib.hid (hz.2 hz0)
      clear hz hz0 hall h1
      go_wp2
      go_ret
      exact ⟨by rw[HF.out,HZ.out]; rfl,rfl⟩
     ·have t4:((s[0].toNat:Int) != 48)=true:=by simpa using hz0
      have HZ:=Lib.hid (mt hz.1 hz0)
      clear hz hz0 hall h1
      go_wp2
      go_ret
      exact ⟨by rw[HF.out]; simp[show ¬ s[0]=48 from HZ.out],rfl⟩
    ·have HF:=Lib.hid (show NumPlain.canonUB s=false from NumPlain.canonU_empty s e0)
     have t3:s.toList.isEmpty=true:=by rw[toList_data s]; exact NumPlain.data_none s e0
     clear hall h1
     go_wp2
     go_ret
     exact ⟨by rw[HF.out]; rfl,rfl⟩
set_option maxHeartbeats 1000000 in
theorem qvu (s:ByteArray) (w:World) (hs:s.size≤maxLen) :
  Calls Tryz.prog 49 #[.string s] w fun e w'=>e=.returned (.tuple #[.int .i64 (NumPlain.parseB s).1,.int .i64 (NumPlain.parseB s).2])∧w=w':=by
 unfold maxLen at hs
 by_cases h0:0 < s.size
 ·by_cases h1:(s[0].toNat:Int)=45
  ·have t1:((s[0].toNat:Int) == 45)=true:=by simpa using h1
   have hsz:(s.extract 1 s.size).size=s.size - 1:=by simp
   have hd:s.data.toList.headD 0=45:=by rw[NumPlain.headD_data s h0]; exact (NumPlain.toNat_int s[0] 45 (by decide)).2 h1
   have hB:=NumPlain.behind_minus hd (show (s.extract 1 s.size).data.toList=s.data.toList.tail by rw[Lib.extract_to_end,List.drop_one])
   have hle:(s.extract 1 s.size).size≤2 ^ 63 - 1:=by omega
   have hsz2:s.size - 1≤2 ^ 63 - 1:=by omega
   clear h1 hd
   by_cases hz0:(s.extract 1 s.size).toList=[48]
   ·have HF:=Lib.hid (hB.zero rfl ((toList_data _).symm.trans hz0))
    have t2:((s.extract 1 s.size).toList == [48])=true:=by simpa using hz0
    cases hc:NumPlain.canonUB (s.extract 1 s.size)
    all_goals
     clear hB hz0
     go_enter Tryz.func49,Tryz.ntmps49
     go_wp2_with (first | (go_at_call 80; refine (q3x _ _ (by unfold maxLen; omega)).mono ?_; rintro e w' ⟨rfl,rfl⟩) | (go_at_call 81; refine (q3q _ _).mono ?_; rintro e w' ⟨rfl,rfl⟩))
     go_ret2
     exact ⟨by rw[HF.out]; rfl,rfl⟩
   ·have t2:((s.extract 1 s.size).toList == [48])=false:=by simpa using hz0
    have hz:=fun h=>hz0 ((toList_data _).trans h)
    have HZ:=Lib.hid hz
    clear hz0 hz
    go_enter Tryz.func49,Tryz.ntmps49
    go_wp2_with fail
    refine (q3x _ _ (by unfold maxLen; omega)).mono ?_
    rintro e w' ⟨rfl,rfl⟩
    generalize hx:s.extract 1 s.size=t at *
    have HX:=Lib.hid hx
    clear hx
    have hz:=HZ.out
    clear HZ
    cases hc:NumPlain.canonUB t
    ·have HF:=Lib.hid (hB.bad hc)
     go_wp2_with (first | (go_at_call 80; refine (q3x _ _ (by unfold maxLen; omega)).mono ?_; rintro e w' ⟨rfl,rfl⟩) | (go_at_call 81; refine (q3q _ _).mono ?_; rintro e w' ⟨rfl,rfl⟩))
     go_ret2
     exact ⟨by rw[HF.out]; rfl,rfl⟩
    ·have hz':True:=trivial
     have hdg:=NumPlain.canonUB_dig hc
     have HG:=Lib.hid (hB.good hc (fun _=>hz))
     by_cases hl:16 < t.size
     ·have HF:=Lib.hid (NumPlain.right_big true (NumPlain.canonUB_big hc hl))
      clear hdg hB
      go_wp2_with (first | (go_at_call 80; refine (q3x _ _ (by unfold maxLen; omega)).mono ?_; rintro e w' ⟨rfl,rfl⟩) | (go_at_call 81; refine (q3q _ _).mono ?_; rintro e w' ⟨rfl,rfl⟩))
      go_ret2
      exact ⟨by rw[HG.out,HF.out]; rfl,rfl⟩
     ·have HC:=Lib.hid hdg
      have hl':t.size≤16:=by omega
      clear hdg hB hl
      go_wp2_with (first | (go_at_call 80; refine (q3x _ _ (by unfold maxLen; omega)).mono ?_; rintro e w' ⟨rfl,rfl⟩) | (go_at_call 81; refine (q3q _ _).mono ?_; rintro e w' ⟨rfl,rfl⟩))
      go_loop [6,7] (fun n i=>∃ k:Nat,k≤t.size∧i=.int .i64 k∧n=.int .i64 (NumPlain.decB t k)) (fun _ i=>t.size - (intOf i).toNat)
      case atStart=>exact ⟨0,Nat.zero_le _,rfl,rfl⟩
      case round =>
       obtain ⟨k,hk,rfl,rfl⟩:=hrel
       by_cases hlt:k < t.size
       ·obtain ⟨d1,d2⟩:=NumPlain.dig_at HC.out k hlt
        have b1:=NumPlain.decB_bd HC.out k (by omega)
        have HS:=Lib.hid (NumPlain.decB_succ t k hlt)
        have b2:=NumPlain.decB_bd HC.out (k+1) (by omega)
        rw[HS.out]at b2
        generalize NumPlain.decB t k=n at *
        go_wp2
        go_round
        case rel=>exact ⟨k+1,by omega,by go_num,by rw[HS.out]; go_num⟩
        case measure=>simp[intOf]; omega
       ·obtain rfl:k=t.size:=by omega
        have b1:=NumPlain.decB_bd HC.out t.size (by omega)
        have HA:=Lib.hid (NumPlain.decB_all t)
        rw[← NumPlain.decB_all t]at HG
        generalize NumPlain.decB t t.size=n at *
        cases hv:NumPlain.validB (-(n:Int))
        all_goals
         have HR:=Lib.hid (show NumPlain.right (-(n:Int))=_ by simp only[NumPlain.right,hv]; rfl)
         go_wp2_with (first | (go_at_call 80; refine (q3x _ _ (by unfold maxLen; omega)).mono ?_; rintro e w' ⟨rfl,rfl⟩) | (go_at_call 81; refine (q3q _ _).mono ?_; rintro e w' ⟨rfl,rfl⟩))
         go_ret2
         exact ⟨by rw[HG.out]; simp only[if_true]; rw[HR.out]; rfl,rfl⟩
  ·have t1:((s[0].toNat:Int) == 45)=false:=by simpa using h1
   have hB:=NumPlain.behind_plus (s:=s) (by rw[NumPlain.headD_data s h0]; exact mt (NumPlain.toNat_int s[0] 45 (by decide)).1 h1)
   clear h1
   go_enter Tryz.func49,Tryz.ntmps49
   cases hc:NumPlain.canonUB s
   ·have HF:=Lib.hid (hB.bad hc)
    go_wp2_with (first | (go_at_call 80; refine (q3x _ _ (by unfold maxLen; omega)).mono ?_; rintro e w' ⟨rfl,rfl⟩) | (go_at_call 81; refine (q3q _ _).mono ?_; rintro e w' ⟨rfl,rfl⟩))
    go_ret2
    exact ⟨by rw[HF.out]; rfl,rfl⟩
   ·have hz':True:=trivial
    have hdg:=NumPlain.canonUB_dig hc
    have HG:=Lib.hid (hB.good hc (fun h=>by cases h))
    by_cases hl:16 < s.size
    ·have HF:=Lib.hid (NumPlain.right_big false (NumPlain.canonUB_big hc hl))
     clear hdg hB
     go_wp2_with (first | (go_at_call 80; refine (q3x _ _ (by unfold maxLen; omega)).mono ?_; rintro e w' ⟨rfl,rfl⟩) | (go_at_call 81; refine (q3q _ _).mono ?_; rintro e w' ⟨rfl,rfl⟩))
     go_ret2
     exact ⟨by rw[HG.out,HF.out]; rfl,rfl⟩
    ·have HC:=Lib.hid hdg
     have hl':s.size≤16:=by omega
     clear hdg hB hl
     go_wp2_with (first | (go_at_call 80; refine (q3x _ _ (by unfold maxLen; omega)).mono ?_; rintro e w' ⟨rfl,rfl⟩) | (go_at_call 81; refine (q3q _ _).mono ?_; rintro e w' ⟨rfl,rfl⟩))
     go_loop [6,7] (fun n i=>∃ k:Nat,k≤s.size∧i=.int .i64 k∧n=.int .i64 (NumPlain.decB s k)) (fun _ i=>s.size - (intOf i).toNat)
     case atStart=>exact ⟨0,Nat.zero_le _,rfl,rfl⟩
     case round =>
      obtain ⟨k,hk,rfl,rfl⟩:=hrel
      by_cases hlt:k < s.size
      ·obtain ⟨d1,d2⟩:=NumPlain.dig_at HC.out k hlt
       have b1:=NumPlain.decB_bd HC.out k (by omega)
       have HS:=Lib.hid (NumPlain.decB_succ s k hlt)
       have b2:=NumPlain.decB_bd HC.out (k+1) (by omega)
       rw[HS.out]at b2
       generalize NumPlain.decB s k=n at *
       go_wp2
       go_round
       case rel=>exact ⟨k+1,by omega,by go_num,by rw[HS.out]; go_num⟩
       case measure=>simp[intOf]; omega
      ·obtain rfl:k=s.size:=by omega
       have b1:=NumPlain.decB_bd HC.out s.size (by omega)
       have HA:=Lib.hid (NumPlain.decB_all s)
       rw[← NumPlain.decB_all s]at HG
       generalize NumPlain.decB s s.size=n at *
       cases hv:NumPlain.validB (n:Int)
       all_goals
        have HR:=Lib.hid (show NumPlain.right (n:Int)=_ by simp only[NumPlain.right,hv]; rfl)
        go_wp2_with (first | (go_at_call 80; refine (q3x _ _ (by unfold maxLen; omega)).mono ?_; rintro e w' ⟨rfl,rfl⟩) | (go_at_call 81; refine (q3q _ _).mono ?_; rintro e w' ⟨rfl,rfl⟩))
        go_ret2
        exact ⟨by rw[HG.out]; simp only[Bool.false_eq_true,if_false]; rw[HR.out]; rfl,rfl⟩
 ·have hc:NumPlain.canonUB s=false:=NumPlain.canonU_empty s h0
  have hB:=NumPlain.behind_plus (s:=s) (by
   have:s.data.toList=[]:=by have:=NumPlain.data_none s h0; simpa using this
   rw[this]; decide)
  have HF:=Lib.hid (hB.bad hc)
  clear hB
  go_enter Tryz.func49,Tryz.ntmps49
  go_wp2_with (first | (go_at_call 80; refine (q3x _ _ (by unfold maxLen; omega)).mono ?_; rintro e w' ⟨rfl,rfl⟩) | (go_at_call 81; refine (q3q _ _).mono ?_; rintro e w' ⟨rfl,rfl⟩))
  go_ret2
  exact ⟨by rw[HF.out]; rfl,rfl⟩
end Go.Proofs.YtpidpioifnnllaaGreatDoor
namespace Go.Proofs.YtpidpioifnnllaaGreatDoor
open Go.RowKit
theorem tdiv10 (n:Int) (h:n < 0):n.tdiv 10=-((-n) / 10):=by
 rw[← Int.tdiv_eq_ediv_of_nonneg (show 0≤-n by omega),Int.neg_tdiv,Int.neg_neg]
theorem tmod10 (n:Int) (h:n < 0):n.tmod 10=-((-n) % 10):=by
 rw[← Int.tmod_eq_emod_of_nonneg (show 0≤-n by omega),Int.neg_tmod,Int.neg_neg]
theorem qb5 (n:Int) (h0:0≤n) (h1:n≤9):Lib.itoa n=[UInt8.ofNat (48+n.toNat)]:=by
 unfold Lib.itoa; rw[if_neg (by omega),Lib.decDigits_one (by omega)]
theorem qif:∀ (k u:Nat),u < 10 ^ (k+1)→(Lib.decDigits u).length≤k+1:=by
 intro k
 induction k with
 | zero=>intro u hu; rw[Lib.decDigits_one (by simpa using hu)]; simp
 | succ k ih =>
  intro u hu
  by_cases h:u < 10
  ·rw[Lib.decDigits_one h]; simp
  ·rw[Lib.decDigits,dif_neg h,List.length_append]
   have:=ih (u / 10) (Nat.div_lt_of_lt_mul (by rw[Nat.pow_succ,Nat.mul_comm]at hu; exact hu))
   simp; omega
theorem q8z (n:Int) (h0:-9223372036854775808≤n) (h1:n≤9223372036854775808):(Lib.itoa n).length≤20:=by
 unfold Lib.itoa
 split
 ·have:=qif 18 n.natAbs (by omega); simp; omega
 ·have:=qif 18 n.toNat (by omega); omega
theorem qs3 (n:Int):(n < 0→-10 < n→Lib.itoa n=[45]++Lib.itoa (-n))∧(n < 0→¬ -10 < n→Lib.itoa n=Lib.itoa (n.tdiv 10)++Lib.itoa (-(n.tmod 10)))∧(9 < n→Lib.itoa n=Lib.itoa (n / 10)++Lib.itoa (n % 10)):=by
 refine ⟨fun h1 h2=>?_,fun h1 h2=>?_,fun h=>?_⟩
 ·rw[qb5 (-n) (by omega) (by omega)]
  unfold Lib.itoa; rw[if_pos h1,Lib.decDigits_one (by omega)]
  rw[show n.natAbs=(-n).toNat by omega]; rfl
 ·have e1:=tdiv10 n h1
  have e2:=tmod10 n h1
  rw[qb5 (-(n.tmod 10)) (by omega) (by omega)]
  unfold Lib.itoa
  rw[if_pos h1,if_pos (by omega),Lib.decDigits,dif_neg (by omega),List.cons_append]
  congr 2
  ·rw[show (n.tdiv 10).natAbs=n.natAbs / 10 by omega]
  ·rw[show (-n.tmod 10).toNat=n.natAbs % 10 by omega]
 ·rw[qb5 (n % 10) (by omega) (by omega)]
  unfold Lib.itoa
  rw[if_neg (by omega),if_neg (by omega),Lib.decDigits,dif_neg (by omega)]
  congr 2
  ·rw[show (n / 10).toNat=n.toNat / 10 by omega]
  ·rw[show (n % 10).toNat=n.toNat % 10 by omega]
theorem qq4 (w:World) (n:Int) (h0:0≤n) (h1:n≤9) :
  (convert 45 9 (.slice (some ⟨w.heap.size,0,none⟩) 1 1)).run Tryz.prog (w.alloc (.cells #[.int .u8 (48+n)] 5))=.ok (.string ⟨(Lib.itoa n).toArray⟩) (w.alloc (.cells #[.int .u8 (48+n)] 5)):=by
 rw[qb5 n h0 h1]
 refine run_convert_bytes_back _ _ _ 5 ⟨w.heap.size,0,none⟩ 1 [UInt8.ofNat (48+n.toNat)] Tryz.underlying45 Tryz.underlying5 Tryz.underlying9 ?_
 intro j hj
 obtain rfl:j=0:=by simpa using hj
 have e:((UInt8.ofNat (48+n.toNat)).toNat:Int)=48+n:=by simp[UInt8.toNat_ofNat']; omega
 simp only[List.getElem_cons_zero,e]
 simp[Addr.add,go_sem]
set_option maxHeartbeats 400000 in
theorem q9j (n:Int) (w:World) (h0:0≤n) (h1:n≤9) :
  Calls Tryz.prog 37 #[.int .i64 n] w fun e w'=>e=.returned (.string ⟨(Lib.itoa n).toArray⟩)∧Below w.heap.size w w':=by
 have hconv:=qq4 w n h0 h1
 generalize Lib.itoa n=l at *
 go_enter Tryz.func37,Tryz.ntmps37
 go_wp2
 go_ret
 exact ⟨rfl,(Below.refl _ _).alloc (Nat.le_refl _) _⟩
theorem qg8 (a b:List UInt8):((⟨a.toArray⟩:ByteArray)++⟨b.toArray⟩)=⟨(a++b).toArray⟩:=by
 apply ByteArray.ext; simp
set_option maxHeartbeats 400000 in
theorem qvr (k:Nat):∀ (n:Int) (w:World),n.natAbs≤k→-9223372036854775808≤n→n≤9223372036854775807 →
  Calls Tryz.prog 37 #[.int .i64 n] w fun e w'=>e=.returned (.string ⟨(Lib.itoa n).toArray⟩)∧Below w.heap.size w w':=by
 induction k with
 | zero=>intro n w hk _ _; exact q9j n w (by omega) (by omega)
 | succ k ih =>
  intro n w hk hlo hhi
  by_cases d:0≤n∧n≤9
  ·exact q9j n w d.1 d.2
  ·have IH:=Lib.hid ih
   clear ih
   have CASE:=Lib.hid (qs3 n)
   by_cases d1:n < 0
   ·by_cases d2:-10 < n
    ·clear d
     have L1:=q8z (-n) (by omega) (by omega)
     go_enter Tryz.func37,Tryz.ntmps37
     go_wp2_with fail
     refine (q9j _ _ (by omega) (by omega)).mono ?_
     rintro e w1 ⟨rfl,hb⟩
     have HB:=Lib.hid hb
     clear hb
     generalize hi:Lib.itoa (-n)=l at *
     clear hi
     go_wp2_with fail
     go_ret
     exact ⟨by rw[CASE.out.1 d1 d2,← qg8]; rfl,HB.out⟩
    ·clear d
     have B1:=tdiv10 n d1
     have B2:=tmod10 n d1
     have B3:-922337203685477581≤n.tdiv 10∧n.tdiv 10≤-1∧(n.tdiv 10).natAbs≤k:=by omega
     have B4:-9≤n.tmod 10∧n.tmod 10≤0:=by omega
     clear B1 B2
     have L1:=q8z (n.tdiv 10) (by omega) (by omega)
     have L2:=q8z (-(n.tmod 10)) (by omega) (by omega)
     go_enter Tryz.func37,Tryz.ntmps37
     go_wp2_with fail
     refine (IH.out _ _ (by omega) (by omega) (by omega)).mono ?_
     rintro e w1 ⟨rfl,hb⟩
     have HB:=Lib.hid hb
     clear hb
     generalize hi:Lib.itoa (n.tdiv 10)=l at *
     clear hi
     go_wp2_with fail
     refine (q9j _ _ (by omega) (by omega)).mono ?_
     rintro e w2 ⟨rfl,hb⟩
     have HB2:=Lib.hid hb
     clear hb
     generalize hi:Lib.itoa (-(n.tmod 10))=m at *
     clear hi
     go_wp2_with fail
     go_ret
     exact ⟨by rw[CASE.out.2.1 d1 d2,← qg8]; rfl,HB.out.trans (HB2.out.mono HB.out.size)⟩
   ·have L1:=q8z (n / 10) (by omega) (by omega)
    have L2:=q8z (n % 10) (by omega) (by omega)
    have d2:9 < n:=by omega
    clear d
    go_enter Tryz.func37,Tryz.ntmps37
    go_wp2_with fail
    refine (IH.out _ _ (by omega) (by omega) (by omega)).mono ?_
    rintro e w1 ⟨rfl,hb⟩
    have HB:=Lib.hid hb
    clear hb
    generalize hi:Lib.itoa (n / 10)=l at *
    clear hi
    go_wp2_with fail
    refine (q9j _ _ (by omega) (by omega)).mono ?_
    rintro e w2 ⟨rfl,hb⟩
    have HB2:=Lib.hid hb
    clear hb
    generalize hi:Lib.itoa (n % 10)=m at *
    clear hi
    go_wp2_with fail
    go_ret
    exact ⟨by rw[CASE.out.2.2 d2,← qg8]; rfl,HB.out.trans (HB2.out.mono HB.out.size)⟩
theorem qvq (n:Int) (w:World) (h0:-9223372036854775808≤n) (h1:n≤9223372036854775807) :
  Calls Tryz.prog 37 #[.int .i64 n] w fun e w'=>e=.returned (.string ⟨(Lib.itoa n).toArray⟩)∧Below w.heap.size w w' :=
 qvr n.natAbs n w (Nat.le_refl _) h0 h1
end Go.Proofs.YtpidpioifnnllaaGreatDoor
