import Derived.Test.YtagadjpmkggjdaaGreatDoorPrG
namespace Go.Proofs.YtagadjpmkggjdaaGreatDoor
set_option linter.unusedSimpArgs false
set_option linter.unusedVariables false
namespace Abs
open Go.RowKit
theorem qse (s:ByteArray) (i:Nat):(s.get! i).toNat=qb s i:=by
 obtain ⟨⟨l⟩⟩:=s
 show ((⟨l⟩:Array UInt8)[i]!).toNat=(l.getD i 0).toNat
 congr 1
 rw[List.getD_eq_getElem?_getD,getElem!_def]
 rw[List.getElem?_toArray]
 cases l[i]?<;>rfl
def widN (b0 b1 b2 b3:Nat) (p1 p2 p3:Bool):Nat :=
 (if b0<0x80 then (b0,1)
 else if b0 / 32==6&&(p1&&b1 / 64==2) then
  (if (b0 % 32)*64+b1 % 64 >= 0x80 then ((b0 % 32)*64+b1 % 64,2) else (Utf8.runeError,1))
 else if b0 / 16==14&&(p1&&b1 / 64==2)&&(p2&&b2 / 64==2) then
  (if (b0 % 16)*4096+(b1 % 64)*64+b2 % 64 >= 0x800&&Utf8.valid ((b0 % 16)*4096+(b1 % 64)*64+b2 % 64:Nat) then ((b0 % 16)*4096+(b1 % 64)*64+b2 % 64,3) else (Utf8.runeError,1))
 else if b0 / 8==30&&(p1&&b1 / 64==2)&&(p2&&b2 / 64==2)&&(p3&&b3 / 64==2) then
  (if (b0 % 8)*262144+(b1 % 64)*4096+(b2 % 64)*64+b3 % 64 >= 0x10000&&Utf8.valid ((b0 % 8)*262144+(b1 % 64)*4096+(b2 % 64)*64+b3 % 64:Nat) then ((b0 % 8)*262144+(b1 % 64)*4096+(b2 % 64)*64+b3 % 64,4) else (Utf8.runeError,1))
 else (Utf8.runeError,1)).2
theorem qqs (s:ByteArray) (k:Nat):(Utf8.decode s k).2=widN (qb s k) (qb s (k+1)) (qb s (k+2)) (qb s (k+3)) (decide (k+1<s.size)) (decide (k+2<s.size)) (decide (k+3<s.size)):=by
 unfold Utf8.decode widN
 simp only[qse,Nat.add_zero]
def qfh (b0 b1 b2 b3:Nat) (p1 p2 p3:Bool):Nat :=
 let c (p:Bool) (b:Nat) (lo hi:Int):Bool:=p&&decide (lo<=(b:Int))&&decide ((b:Int)<=hi)
 if (lead b0).1=1 then 1
 else if (lead b0).1=2 then (if c p1 b1 (lead b0).2.1 (lead b0).2.2 then 2 else 0)
 else if (lead b0).1=3 then (if c p1 b1 (lead b0).2.1 (lead b0).2.2&&c p2 b2 128 191 then 3 else 0)
 else if (lead b0).1=4 then (if c p1 b1 (lead b0).2.1 (lead b0).2.2&&c p2 b2 128 191&&c p3 b3 128 191 then 4 else 0)
 else 0
theorem rlen_N (s:ByteArray) (k:Nat):rlen s k=qfh (qb s k) (qb s (k+1)) (qb s (k+2)) (qb s (k+3)) (decide (k+1<s.size)) (decide (k+2<s.size)) (decide (k+3<s.size)):=rfl
set_option maxHeartbeats 4000000 in
theorem q107 (b0 b1 b2 b3:Nat) (p1 p2 p3:Bool) (h0:b0<256) (h1:b1<256) (h2:b2<256) (h3:b3<256):widN b0 b1 b2 b3 p1 p2 p3=max (qfh b0 b1 b2 b3 p1 p2 p3) 1:=by
 have q:∀b:Nat,b<256->(b / 64==2)=(decide ((128:Int)<=(b:Int))&&decide ((b:Int)<=191)):=fun b hb=>by
  rw[Bool.eq_iff_iff,beq_iff_eq,Bool.and_eq_true,decide_eq_true_eq,decide_eq_true_eq];omega
 have l:lead b0=(1,0,0)/\b0<128\/lead b0=(0,0,0)/\(128<=b0/\b0<194\/245<=b0)\/lead b0=(2,128,191)/\194<=b0/\b0<224\/lead b0=(3,160,191)/\b0=224\/lead b0=(3,128,191)/\(225<=b0/\b0<237\/238<=b0/\b0<240)\/lead b0=(3,128,159)/\b0=237\/lead b0=(4,144,191)/\b0=240\/lead b0=(4,128,191)/\241<=b0/\b0<244\/lead b0=(4,128,143)/\b0=244:=by
  unfold lead
  by_cases c1:b0<128
  .rw[if_pos c1];exact .inl ⟨rfl,c1⟩
  rw[if_neg c1]
  by_cases c2:b0<194
  .rw[if_pos c2];exact .inr (.inl ⟨rfl,by omega⟩)
  rw[if_neg c2]
  by_cases c3:b0<224
  .rw[if_pos c3];exact .inr (.inr (.inl ⟨rfl,by omega,c3⟩))
  rw[if_neg c3]
  by_cases c4:b0=224
  .rw[if_pos c4];exact .inr (.inr (.inr (.inl ⟨rfl,c4⟩)))
  rw[if_neg c4]
  by_cases c5:b0<237
  .rw[if_pos c5];exact .inr (.inr (.inr (.inr (.inl ⟨rfl,by omega⟩))))
  rw[if_neg c5]
  by_cases c6:b0=237
  .rw[if_pos c6];exact .inr (.inr (.inr (.inr (.inr (.inl ⟨rfl,c6⟩)))))
  rw[if_neg c6]
  by_cases c7:b0<240
  .rw[if_pos c7];exact .inr (.inr (.inr (.inr (.inl ⟨rfl,by omega⟩))))
  rw[if_neg c7]
  by_cases c8:b0=240
  .rw[if_pos c8];exact .inr (.inr (.inr (.inr (.inr (.inr (.inl ⟨rfl,c8⟩))))))
  rw[if_neg c8]
  by_cases c9:b0<244
  .rw[if_pos c9];exact .inr (.inr (.inr (.inr (.inr (.inr (.inr (.inl ⟨rfl,by omega,c9⟩)))))))
  rw[if_neg c9]
  by_cases c10:b0=244
  .rw[if_pos c10];exact .inr (.inr (.inr (.inr (.inr (.inr (.inr (.inr ⟨rfl,c10⟩)))))))
  .rw[if_neg c10];exact .inr (.inl ⟨rfl,by omega⟩)
 unfold widN qfh
 rw[q b1 h1,q b2 h2,q b3 h3]
 have v:∀n:Nat,Utf8.valid (n:Int)=decide (n<55296\/(57344<=n/\n<=1114111)):=fun n=>by
  unfold Utf8.valid
  rw[Bool.eq_iff_iff]
  simp only[Bool.or_eq_true,Bool.and_eq_true,decide_eq_true_eq];omega
 rcases l with ⟨l,r⟩|⟨l,r⟩|⟨l,r⟩|⟨l,r⟩|⟨l,r⟩|⟨l,r⟩|⟨l,r⟩|⟨l,r⟩|⟨l,r⟩
 all_goals
  rw[l]
  cases p1<;>cases p2<;>cases p3
  all_goals
   simp only[v,Bool.and_eq_true,decide_eq_true_eq,beq_iff_eq,ge_iff_le,Bool.false_and,Bool.and_false,Bool.true_and,Bool.false_eq_true,if_false]
   repeat' split
   all_goals first|rfl|omega|(exfalso;exact absurd trivial (by assumption))|(trace_state;sorry)
theorem qm6 (s:ByteArray):∀(f k:Nat),rcF s f k=Lib.runeCountFrom s f k
 | 0,k=>rfl
 | f+1,k=>by
  have hw:(Utf8.decode s k).2=max (rlen s k) 1:=by
   rw[qqs,rlen_N]
   exact q107 _ _ _ _ _ _ _ (q91 _ _) (q91 _ _) (q91 _ _) (q91 _ _)
  rw[Lib.runeCountFrom]
  unfold rcF
  rw[hw,qm6 s f]
theorem rlength18 (v:Val) (hs:v.str.size<=4096):gQ6v v=some (lenS v):=by
 unfold gQ6v lenS
 by_cases h:v.kind=3
 .rw[dT_ h,if_pos h,cT_,show qeq v.str=some (rcount v.str 0:Int) from q1v (by omega)]
  have e:rcount v.str 0=Lib.runeCount v.str:=qm6 v.str v.str.size 0
  rw[e];rfl
 .rw[dF_ h,if_neg h,cF_];rfl
end Abs
end Go.Proofs.YtagadjpmkggjdaaGreatDoor
