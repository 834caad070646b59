/-
  The reference's Lines are the plain ones.
  Joined lines read back: the law Lines.
-/
import Derived.Test.YtpidpioifnnllaaGreatDoorVqK
namespace Go.Proofs.YtpidpioifnnllaaGreatDoor
set_option linter.unusedSimpArgs false
set_option linter.unusedVariables false
open Go.RowKit Go.Lib
namespace Abs
set_option maxRecDepth 100000
def comL (c:Bool):List UInt8:=if c then [44] else []
def adjI (pre:List UInt8) (c:Bool):Nat→List (List UInt8)→List (List UInt8)
 | _,[]=>[]
 | k,e::t=>((if k=0 then pre++e else e)++comL (t.isEmpty && c))::adjI pre c (k+1) t
theorem qal:comL false=[]:=rfl
theorem qgx (pre:List UInt8):∀ (t:List (List UInt8)) (k:Nat),adjI pre false (k+1) t=t
 | [],_=>rfl
 | e::t,k=>by simp only[adjI,Bool.and_false,qal,List.append_nil,qgx pre t (k+1)]; simp
theorem qgy (pre:List UInt8):∀ (t:List (List UInt8)) (p:List UInt8) (k:Nat),(p++comL (t.isEmpty && true))::adjI pre true (k+1) t=(p::t).set t.length ((p::t).getLastD []++[44])
 | [],p,k=>rfl
 | e::t,p,k=>by
  have ih:=qgy pre t e (k+1)
  have h1:adjI pre true (k+1) (e::t)=(e++comL (t.isEmpty && true))::adjI pre true (k+1+1) t:=by simp only[adjI]; simp
  rw[h1,ih]
  simp[comL]
theorem qcu (pre:List UInt8) (c:Bool) {ls:List (List UInt8)} (h:ls≠[]):adjI pre c 0 ls=adj pre c ls:=by
 cases ls with
 | nil=>exact absurd rfl h
 | cons e t =>
  unfold adj
  cases c with
  | false =>
   simp only[adjI,Bool.and_false,qal,List.append_nil,qgx pre t 0,cond_false]
   rfl
  | true =>
   have:=qgy pre t (pre++e) 0
   rw[cond_true]
   simp only[adjI,if_pos trivial]
   rw[this]
   rfl
theorem qeb {B:Int×List ByteArray→Option ((Int×List ByteArray)⊕((Int×List ByteArray)⊕(List ByteArray)))} {i:Int} (ls:List (List UInt8)) (pre:List UInt8) (c:Bool)
  (h1:∀ (k:Nat) (acc:List (List UInt8)) (e:List UInt8),ls[k]?=some e→acc.length≤100000→B ((k:Int),acc.map bS)=some (.inl (((k+1:Nat):Int),(acc++[(if k=0 then pre++e else e)++comL (decide (k+1=ls.length) && c)]).map bS)))
  (h2:∀ acc:List (List UInt8),B ((ls.length:Int),acc.map bS)=some (.inr (.inl (i,acc.map bS)))) :
  ∀ (t:List (List UInt8)) (k:Nat) (acc:List (List UInt8)),ls.drop k=t→k≤ls.length→acc.length+t.length≤100000→qf B ((k:Int),acc.map bS)=some (.inl (i,(acc++adjI pre c k t).map bS))
 | [],k,acc,hd,hk,ha=>by
  have hkl:k=ls.length:=by
   have:=congrArg List.length hd
   rw[List.length_drop]at this; simp at this; omega
  subst hkl
  rw[show adjI pre c ls.length []=[] from rfl,List.append_nil]
  exact qs (h2 acc)
 | e::t,k,acc,hd,hk,ha=>by
  obtain ⟨hlt,hget,hd2⟩:=q3l hd
  simp only[List.length_cons]at ha
  have hlen:ls.length=k+1+t.length:=by
   have:=congrArg List.length hd
   rw[List.length_drop,List.length_cons]at this; omega
  have hem:decide (k+1=ls.length)=t.isEmpty:=by
   cases t with
   | nil=>exact decide_eq_true (by simp only[List.length_nil]at hlen; omega)
   | cons a b=>exact decide_eq_false (by simp only[List.length_cons]at hlen; omega)
  rw[q1v (h1 k acc e hget (by omega)),qeb ls pre c h1 h2 t (k+1) _ hd2 hlt (by rw[List.length_append]; simp only[List.length_cons,List.length_nil]; omega),List.append_assoc,hem]
  rfl
theorem qhk {n:Nat} (hn:n≤64):∀ (m k:Nat),k+m=n→qf (gQ1p (n:Int)) (bS (List.replicate k 32),(k:Int))=some (bS (spc n))
 | 0,k,h=>by
  obtain rfl:k=n:=by omega
  refine qs ?_
  unfold gQ1p
  simp only
  rw[decide_eq_false (by omega),cond_false]; rfl
 | m+1,k,h=>by
  rw[← qhk hn m (k+1) (by omega)]
  refine q1v ?_
  unfold gQ1p
  simp only
  rw[decide_eq_true (by omega),cond_true,show (⟨#[32]⟩:ByteArray)=bS [32] from rfl,q14 _ _ (by rw[List.length_replicate]; simp only[List.length_cons,List.length_nil]; omega),Option.bind_some,q13 (by omega) (by omega),← List.replicate_succ']
  rfl
theorem qd8 {n:Nat} (hn:n≤64):gQ1o (n:Int)=some (bS (spc n)):=qhk hn n 0 (by omega)
theorem q9n {k:Nat} {acc:List (List UInt8)} {z:List UInt8} (hk:k≤1000000) (ha:acc.length≤100000):(app 16 (acc.map bS) [bS z]).bind (fun l=>some (.inl ((IntKind.i64.wrap ((k:Int)+1)),l)))=(some (.inl (((k+1:Nat):Int),(acc++[z]).map bS)):Option ((Int×List ByteArray)⊕((Int×List ByteArray)⊕(List ByteArray)))):=by
 rw[q62 (by decide) (by rw[List.length_map]; simp only[List.length_cons,List.length_nil]; omega),Option.bind_some,q13 (by omega) (by omega),List.map_append]
 rfl
theorem qc4 {k n j:Nat} {items:List Val} {acc:List (List UInt8)} {z:List UInt8} {F:ByteArray→Option ((Int×List ByteArray)⊕((Int×List ByteArray)⊕(List ByteArray)))} (hk:k < n) (hn:n≤1000000) (ha:acc.length≤100000) (hj:j < items.length) (hi:items.length≤1000000) (hz:z.length≤100000000)
  (hF:∀ z:List UInt8,F (bS z)=some (.inl (((k+1:Nat):Int),(acc++[z]).map bS))) :
  (bif (decide ((k:Int)=(IntKind.i64.wrap ((n:Int) - 1)))) then bif (decide ((IntKind.i64.wrap ((j:Int)+1)) < (items.length:Int))) then (cat (bS z) (⟨#[44]⟩:ByteArray)).bind F else F (bS z) else (app 16 (acc.map bS) [bS z]).bind (fun l=>some (.inl ((IntKind.i64.wrap ((k:Int)+1)),l)))) =
  some (.inl (((k+1:Nat):Int),(acc++[z++comL (decide (k+1=n) && decide (j+1 < items.length))]).map bS)):=by
 rw[q13 (n:=(n:Int) - 1) (by omega) (by omega),q13 (n:=(j:Int)+1) (by omega) (by omega)]
 by_cases h1:k+1=n
 ·rw[decide_eq_true (show (k:Int)=(n:Int) - 1 by omega),decide_eq_true h1,cond_true,Bool.true_and]
  by_cases h2:j+1 < items.length
  ·rw[decide_eq_true (show (j:Int)+1 < (items.length:Int) by omega),decide_eq_true h2,cond_true,show (⟨#[44]⟩:ByteArray)=bS [44] from rfl,q14 _ _ (by simp only[List.length_cons,List.length_nil]; omega),Option.bind_some,hF]
   rfl
  ·rw[decide_eq_false (show ¬ (j:Int)+1 < (items.length:Int) by omega),decide_eq_false h2,cond_false,hF,qal,List.append_nil]
 ·rw[decide_eq_false (show ¬ (k:Int)=(n:Int) - 1 by omega),decide_eq_false h1,cond_false,Bool.false_and,qal,List.append_nil,q9n (by omega) ha]
theorem J8_eq {k:Nat} {acc:List (List UInt8)} (hk:k≤1000000) (ha:acc.length≤100000) (z:List UInt8):gQ2h ((k:Int),acc.map bS) (bS z)=some (.inl (((k+1:Nat):Int),(acc++[z]).map bS)):=q9n hk ha
theorem J10_eq {k:Nat} {acc:List (List UInt8)} (hk:k≤1000000) (ha:acc.length≤100000) (z:List UInt8):gQ25 ((k:Int),acc.map bS) (bS z)=some (.inl (((k+1:Nat):Int),(acc++[z]).map bS)):=q9n hk ha
theorem J18_eq {k:Nat} {acc:List (List UInt8)} (hk:k≤1000000) (ha:acc.length≤100000) (z:List UInt8):gQ2b ((k:Int),acc.map bS) (bS z)=some (.inl (((k+1:Nat):Int),(acc++[z]).map bS)):=q9n hk ha
theorem J19_eq {k:Nat} {acc:List (List UInt8)} (hk:k≤1000000) (ha:acc.length≤100000) (z:List UInt8):gQ2c ((k:Int),acc.map bS) (bS z)=some (.inl (((k+1:Nat):Int),(acc++[z]).map bS)):=q9n hk ha
section
variable {x : Val} {m j : Nat} {ls : List (List UInt8)} {S : List ByteArray}
theorem qeu {ls:List (List UInt8)} {k:Nat} {e:List UInt8} (h:ls[k]?=some e):idx (ls.map bS) (k:Int)=some (bS e):=by rw[q1n,List.getElem?_map,h]; rfl
theorem qoi (hm:m≤64) (hk4:x.kind=4) (hj:j < x.items.length) (hi:x.items.length≤1000000) (hls:ls.length≤100000) (hz:∀ z ∈ ls,z.length≤10000000) (k:Nat) (acc:List (List UInt8)) (e:List UInt8) (he:ls[k]?=some e) (ha:acc.length≤100000) :
  gQ2k x ((j:Int),S) (m:Int) (ls.map bS) ((k:Int),acc.map bS)=some (.inl (((k+1:Nat):Int),(acc++[(if k=0 then (spc m++qj x.kind x.keys j)++e else e)++comL (decide (k+1=ls.length) && decide (j+1 < x.items.length))]).map bS)):=by
 have hk:=(List.getElem?_eq_some_iff.1 he).1
 have hez:=hz e (List.mem_of_getElem? he)
 have hlab:qj x.kind x.keys j=[]:=by unfold qj; rw[if_neg (by rw[hk4]; decide)]
 have hsp:(spc m).length=m:=List.length_replicate
 unfold gQ2k
 simp only[List.length_map]
 rw[decide_eq_true (show (k:Int) < (ls.length:Int) by omega),cond_true,qeu he,Option.bind_some,decide_eq_false (show ¬ x.kind=5 by rw[hk4]; decide),cond_false,hlab,List.append_nil]
 by_cases h0:k=0
 ·rw[decide_eq_true (show (k:Int)=0 by omega),cond_true,if_pos h0,qd8 hm,Option.bind_some,q14 _ _ (by omega),Option.bind_some]
  exact qc4 (n:=ls.length) hk (by omega) ha hj hi (by rw[List.length_append]; omega) (fun z=>J18_eq (by omega) ha z)
 ·rw[decide_eq_false (show ¬ (k:Int)=0 by omega),cond_false,if_neg h0]
  exact qc4 (n:=ls.length) hk (by omega) ha hj hi (by omega) (fun z=>J19_eq (by omega) ha z)
theorem qoh (acc:List (List UInt8)) (z:Int) (hj:j < x.items.length) (hi:x.items.length≤1000000):gQ2k x ((j:Int),S) z (ls.map bS) ((ls.length:Int),acc.map bS)=some (.inr (.inl (((j+1:Nat):Int),acc.map bS))):=by
 unfold gQ2k
 simp only[List.length_map]
 rw[decide_eq_false (Int.lt_irrefl _),cond_false,q13 (by omega) (by omega)]; rfl
theorem qoj (hm:m≤64) (hk5:x.kind=5) (hkk:x.keys.length=x.items.length) (hks:∀ s ∈ x.keys,s.size≤4096) (hj:j < x.items.length) (hi:x.items.length≤1000000) (hls:ls.length≤100000) (hz:∀ z ∈ ls,z.length≤10000000) (k:Nat) (acc:List (List UInt8)) (e:List UInt8) (he:ls[k]?=some e) (ha:acc.length≤100000) :
  gQ2m x (m:Int) (ls.map bS) ((j:Int),S) ((k:Int),acc.map bS)=some (.inl (((k+1:Nat):Int),(acc++[(if k=0 then (spc m++qj x.kind x.keys j)++e else e)++comL (decide (k+1=ls.length) && decide (j+1 < x.items.length))]).map bS)):=by
 have hk:=(List.getElem?_eq_some_iff.1 he).1
 have hez:=hz e (List.mem_of_getElem? he)
 have hsp:(spc m).length=m:=List.length_replicate
 unfold gQ2m
 simp only[List.length_map]
 rw[decide_eq_true (show (k:Int) < (ls.length:Int) by omega),cond_true,qeu he,Option.bind_some,decide_eq_true hk5,cond_true,decide_eq_true (show (j:Int) < (x.keys.length:Int) by omega),cond_true]
 by_cases h0:k=0
 ·have hget:=List.getElem?_eq_getElem (show j < x.keys.length by omega)
  have hk1:=hks _ (List.getElem_mem (show j < x.keys.length by omega))
  have hq1:=qfs hk1
  have hlab:qj x.kind x.keys j=q12 (bL (x.keys[j]'(by omega)))++[58,32]:=by unfold qj; rw[if_pos hk5,hget]
  rw[decide_eq_true (show (k:Int)=0 by omega),cond_true,if_pos h0,q1n,hget,Option.bind_some,quote9 hk1,Option.bind_some,show (⟨#[58,32]⟩:ByteArray)=bS [58,32] from rfl,q14 _ _ (by simp only[List.length_cons,List.length_nil]; omega),Option.bind_some,← hlab,
   q14 _ _ (by rw[hlab,List.length_append]; simp only[List.length_cons,List.length_nil]; omega),Option.bind_some]
  have hll:(qj x.kind x.keys j).length≤24580:=q93 hks j
  unfold gQ2f
  simp only
  rw[decide_eq_true (show (k:Int)=0 by omega),cond_true,qd8 hm,Option.bind_some,q14 _ _ (by rw[List.length_append]; omega),Option.bind_some,← List.append_assoc]
  unfold gQ2g
  simp only[List.length_map]
  exact qc4 (n:=ls.length) hk (by omega) ha hj hi (by rw[List.length_append,List.length_append]; omega) (fun z=>J8_eq (by omega) ha z)
 ·rw[decide_eq_false (show ¬ (k:Int)=0 by omega),cond_false,if_neg h0]
  exact qc4 (n:=ls.length) hk (by omega) ha hj hi (by omega) (fun z=>J10_eq (by omega) ha z)
theorem L5_end (acc:List (List UInt8)) (z:Int) (hj:j < x.items.length) (hi:x.items.length≤1000000):gQ2m x z (ls.map bS) ((j:Int),S) ((ls.length:Int),acc.map bS)=some (.inr (.inl (((j+1:Nat):Int),acc.map bS))):=by
 unfold gQ2m
 simp only[List.length_map]
 rw[decide_eq_false (Int.lt_irrefl _),cond_false,q13 (by omega) (by omega)]; rfl
end
open Classical in
theorem qsj (x:Val) (i d:Int):tQ56 x i d=gQ23 (fun a0 a1 a2=>if relV a0 x then tQ56 a0 a1 a2 else none) x i d:=q42 x (i,d)
theorem clamp9 (r:Val→Int→Int→Option (List ByteArray)) (x:Val) (i d:Int):gQ23 r x i d=gQ2d r x d (clampI i):=by
 unfold gQ23 gQ24 clampI
 by_cases h:i < 0
 ·rw[decide_eq_true h,cond_true,decide_eq_false (by decide),cond_false,if_pos h,if_neg (by decide)]
 ·rw[decide_eq_false h,cond_false,if_neg h]
  by_cases h2:i > 64
  ·rw[decide_eq_true h2,cond_true,if_pos h2]
  ·rw[decide_eq_false h2,cond_false,if_neg h2]
theorem qjx {items:List Val} {j:Nat} {r:List Val} (h:items.length=j+1+r.length):(!r.isEmpty)=decide (j+1 < items.length):=by
 cases r with
 | nil=>exact (decide_eq_false (by simp only[List.length_nil]at h; omega)).symm
 | cons a b=>exact (decide_eq_true (by simp only[List.length_cons]at h; omega)).symm
open Classical in
theorem qsk (x:Val):∀ (e d:Nat) (i:Int) (m:Nat),m≤64→clampI i=(m:Int)→e+d≤32→Good e x→x.Fits→q2a x≤4096→tQ56 x i (d:Int)=some ((qo x m).map bS):=by
 induction x using wfV.induction with
 | h x ih =>
  intro e d i m hm hcl he hg hf hnd
  obtain ⟨f1,f2,f3,f4,f5,f6,f7⟩:=hf.parts
  obtain ⟨hsh,_,_,_⟩:=q99 hg.node
  obtain ⟨k0,k6,_,_,_,kit,kk5,kno⟩:=q7x hsh
  obtain ⟨hs1,hs2⟩:=q68 hg
  obtain ⟨e',he',hit⟩:=hg.item
  have hnodes:q2a x=1+q1g x.items:=by obtain ⟨k,n,s,items,keys⟩:=x; rfl
  have hin:x.items.length≤q1g x.items:=by
   have:∀ l:List Val,l.length≤q1g l:=fun l=>by
    induction l with
    | nil=>simp
    | cons a t ih=>
     have:1≤q2a a:=by obtain ⟨k,n,s,items,keys⟩:=a; simp only[q2a]; omega
     simp only[q1g,List.length_cons]; omega
   exact this _
  have hfmt:∀ (_:x.items=[]),gQ1g x=some (bS (q25 x)):=fun hnil=>by
   unfold gQ1g
   have hfe:fmtV x=q25 x:=by rw[q5e,if_pos hnil]
   have:=qjc x e 0 hg hf (by omega) (by rw[hfe]; have:=qfz hg hf; omega)
   rw[show ((0:Nat):Int)=0 from rfl,hfe]at this
   rw[this]; rfl
  rw[qsj,q6b,clamp9,hcl]
  unfold gQ2d
  by_cases hnil:x.items=[]
  ·have hlen:x.items.length=0:=by rw[hnil]; rfl
   rw[if_pos hnil,hfmt hnil,hlen]
   simp only[Option.bind_some,List.map_cons,List.map_nil]
   by_cases h4:x.kind=4
   ·rw[decide_eq_true h4]; rfl
   ·rw[decide_eq_false h4]
    by_cases h5:x.kind=5
    ·rw[decide_eq_true h5]; rfl
    ·rw[decide_eq_false h5]; rfl
  ·rw[if_neg hnil]
   have hpos:0 < x.items.length:=List.length_pos_iff.2 hnil
   have hrec:∀ y ∈ x.items,(fun a0 a1 a2=>if relV a0 x then tQ56 a0 a1 a2 else none) y ((inn m:Nat):Int) (IntKind.i64.wrap ((d:Int)+1))=some ((qo y (inn m)).map bS):=fun y hy=>by
    simp only
    rw[if_pos (show relV y x from hy),q13 (by omega) (by omega)]
    exact ih y hy e' (d+1) _ _ (q3z m) (qi9 (q3z m)) (by omega) (hit y hy) (f7 y hy) (by
     have:q2a y≤q1g x.items:=by
      have:∀ l:List Val,y ∈ l→q2a y≤q1g l:=fun l=>by
       induction l with
       | nil=>intro h; cases h
       | cons a t ih =>
        intro h
        simp only[q1g]
        rcases List.mem_cons.1 h with rfl | h
        ·omega
        ·have:=ih h; omega
      exact this _ hy
     omega)
   have hinn:(bif (decide ((IntKind.i64.wrap ((m:Int)+2)) > 64)) then (64:Int) else IntKind.i64.wrap ((m:Int)+2))=((inn m:Nat):Int):=by
    have:=qi8 m hm
    by_cases h:(IntKind.i64.wrap ((m:Int)+2)) > 64
    ·rw[decide_eq_true h,cond_true]; rw[if_pos h]at this; exact this
    ·rw[decide_eq_false h,cond_false]; rw[if_neg h]at this; exact this
   have hlines:∀ y ∈ x.items,∀ z ∈ qo y (inn m),z.length≤10000000:=fun y hy z hz=>by
    have:=qbb y (inn m) e' (q3z m) (hit y hy) (f7 y hy) z hz
    omega
   have hcnt:∀ y ∈ x.items,(qo y (inn m)).length≤8192:=fun y hy=>by
    have h1:=q6c y (inn m)
    have:q2a y≤q1g x.items:=by
     have:∀ l:List Val,y ∈ l→q2a y≤q1g l:=fun l=>by
      induction l with
      | nil=>intro h; cases h
      | cons a t ih =>
       intro h
       simp only[q1g]
       rcases List.mem_cons.1 h with rfl | h
       ·omega
       ·have:=ih h; omega
     exact this _ hy
    omega
   -- the loop over the elements
   have outer:∀ {B:Int×List ByteArray→Option ((Int×List ByteArray)⊕(List ByteArray))},
     (∀ (j:Nat) (acc:List (List UInt8)) (y:Val) (r:List Val),x.items.drop j=y::r→acc.length+2*q1g (y::r)≤10000→B ((j:Int),acc.map bS)=some (.inl (((j+1:Nat):Int),(acc++adj (spc (inn m)++qj x.kind x.keys j) (!r.isEmpty) (qo y (inn m))).map bS))) →
     (∀ acc:List (List UInt8),acc.length≤10000→B ((x.items.length:Int),acc.map bS)=some (.inr ((acc++[spc m++endS x]).map bS))) →
     ∀ (l:List Val) (j:Nat) (acc:List (List UInt8)),x.items.drop j=l→j≤x.items.length→acc.length+2*q1g l≤10000 →
     qf B ((j:Int),acc.map bS)=some ((acc++q1q x.kind x.keys (inn m) j l++[spc m++endS x]).map bS):=by
    intro B hB1 hB2 l
    induction l with
    | nil =>
     intro j acc hdr hj hac
     have hj2:j=x.items.length:=by
      have:=congrArg List.length hdr
      rw[List.length_drop]at this; simp at this; omega
     subst hj2
     simp only[q1q,List.append_nil]
     simp only[q1g]at hac
     exact qs (hB2 acc (by omega))
    | cons y r ihl =>
     intro j acc hdr hj hac
     obtain ⟨hlt,hget,hdr2⟩:=q3l hdr
     have hy:y ∈ x.items:=List.mem_of_getElem? hget
     have hc1:=q6c y (inn m)
     rw[q1v (hB1 j acc y r hdr hac),ihl (j+1) _ hdr2 hlt (by simp only[q1g]at hac; rw[List.length_append,qa8]; omega)]
     simp only[q1q,List.append_assoc]
   have hE:endS x=[93]∨endS x=[125]:=by unfold endS; split; exact .inr rfl; exact .inl rfl
   have hsm:(spc m).length=m:=List.length_replicate
   have close:∀ (acc:List (List UInt8)) (z:List UInt8),z.length=1→acc.length≤10000→((gQ1o (m:Int)).bind fun y40=>(cat y40 (bS z)).bind fun x41=>(app 16 (acc.map bS) [x41]).bind fun l42=>some (.inr (l42)))=(some (.inr ((acc++[spc m++z]).map bS)):Option ((Int×List ByteArray)⊕(List ByteArray))):=fun acc z hz ha=>by
    rw[qd8 hm,Option.bind_some,q14 _ _ (by omega),Option.bind_some,q62 (by decide) (by rw[List.length_map]; simp only[List.length_cons,List.length_nil]; omega),Option.bind_some,List.map_append]; rfl
   have hk45:x.kind=4∨x.kind=5:=by
    by_cases h4:x.kind=4
    ·exact .inl h4
    ·by_cases h5:x.kind=5
     ·exact .inr h5
     ·exact absurd (kit h4 h5) hnil
   rw[decide_eq_false (show ¬ (x.items.length:Int)=0 by omega),cond_false,cond_false,decide_eq_false (show ¬ (d:Int) > 32 by omega),cond_false,cond_false]
   rcases hk45 with h4 | h5
   ·rw[decide_eq_true h4,Bool.not_true,cond_false,decide_eq_false (show ¬ x.kind=5 by rw[h4]; decide),cond_false]
    have hop:q1h x=[91]:=by unfold q1h; rw[if_neg (by rw[h4]; decide)]
    have hed:endS x=[93]:=by unfold endS; rw[if_neg (by rw[h4]; decide)]
    unfold gQ26
    have key:=outer (B:=gQ2j (fun a0 a1 a2=>if relV a0 x then tQ56 a0 a1 a2 else none) x (d:Int) (m:Int) ((⟨#[91]⟩:ByteArray),(⟨#[93]⟩:ByteArray)) ((inn m:Nat):Int)) (fun j acc y r hdr hac=>by
      obtain ⟨hlt,hget,hdr2⟩:=q3l hdr
      have hy:y ∈ x.items:=List.mem_of_getElem? hget
      have hrl:x.items.length=j+1+r.length:=by
       have:=congrArg List.length hdr
       rw[List.length_drop,List.length_cons]at this; omega
      unfold gQ2j
      simp only
      rw[decide_eq_true (show (j:Int) < (x.items.length:Int) by omega),cond_true,q1n,hget,Option.bind_some]
      have hr:=hrec y hy
      simp only at hr
      rw[hr,Option.bind_some]
      simp only[q1g]at hac
      have hc1:=q6c y (inn m)
      have:=qeb (B:=gQ2k x ((j:Int),acc.map bS) ((inn m:Nat):Int) ((qo y (inn m)).map bS)) (qo y (inn m)) (spc (inn m)++qj x.kind x.keys j) (decide (j+1 < x.items.length)) (fun k a e he ha=>qoi (q3z m) h4 hlt (by omega) (by have:=hcnt y hy; omega) (hlines y hy) k a e he ha) (fun a=>qoh a _ hlt (by omega)) (qo y (inn m)) 0 acc List.drop_zero (Nat.zero_le _) (by omega)
      rw[show ((0:Nat):Int)=0 from rfl]at this
      rw[this,qcu _ _ (q5k y (inn m)),qjx hrl]) (fun acc ha=>by
      unfold gQ2j
      simp only
      rw[decide_eq_false (Int.lt_irrefl _),cond_false,hed]
      exact close acc [93] rfl ha) x.items 0 [q1h x] List.drop_zero (Nat.zero_le _) (by simp only[List.length_cons,List.length_nil]; omega)
    rw[hop]at key ⊢
    have hJ:gQ27 (fun a0 a1 a2=>if relV a0 x then tQ56 a0 a1 a2 else none) x (d:Int) (m:Int) ((⟨#[91]⟩:ByteArray),(⟨#[93]⟩:ByteArray)) ((inn m:Nat):Int)=some (([91]::(q1q x.kind x.keys (inn m) 0 x.items++[spc m++endS x])).map bS):=key
    by_cases h:(IntKind.i64.wrap ((m:Int)+2)) > 64
    ·rw[decide_eq_true h,cond_true]at hinn ⊢
     rw[hinn]; exact hJ
    ·rw[decide_eq_false h,cond_false]at hinn ⊢
     rw[hinn]; exact hJ
   ·rw[decide_eq_false (show ¬ x.kind=4 by rw[h5]; decide),Bool.not_false,cond_true,decide_eq_true h5,Bool.not_true,cond_false]
    have hop:q1h x=[123]:=by unfold q1h; rw[if_pos h5]
    have hed:endS x=[125]:=by unfold endS; rw[if_pos h5]
    have hkl:x.keys.length=x.items.length:=kk5 h5
    have key:=outer (B:=gQ2l (fun a0 a1 a2=>if relV a0 x then tQ56 a0 a1 a2 else none) x (d:Int) (m:Int) ((inn m:Nat):Int)) (fun j acc y r hdr hac=>by
      obtain ⟨hlt,hget,hdr2⟩:=q3l hdr
      have hy:y ∈ x.items:=List.mem_of_getElem? hget
      have hrl:x.items.length=j+1+r.length:=by
       have:=congrArg List.length hdr
       rw[List.length_drop,List.length_cons]at this; omega
      unfold gQ2l
      simp only
      rw[decide_eq_true (show (j:Int) < (x.items.length:Int) by omega),cond_true,q1n,hget,Option.bind_some]
      have hr:=hrec y hy
      simp only at hr
      rw[hr,Option.bind_some]
      simp only[q1g]at hac
      have hc1:=q6c y (inn m)
      have:=qeb (B:=gQ2m x ((inn m:Nat):Int) ((qo y (inn m)).map bS) ((j:Int),acc.map bS)) (qo y (inn m)) (spc (inn m)++qj x.kind x.keys j) (decide (j+1 < x.items.length)) (fun k a e he ha=>qoj (q3z m) h5 hkl hs2 hlt (by omega) (by have:=hcnt y hy; omega) (hlines y hy) k a e he ha) (fun a=>L5_end a _ hlt (by omega)) (qo y (inn m)) 0 acc List.drop_zero (Nat.zero_le _) (by omega)
      rw[show ((0:Nat):Int)=0 from rfl]at this
      rw[this,qcu _ _ (q5k y (inn m)),qjx hrl]) (fun acc ha=>by
      unfold gQ2l
      simp only
      rw[decide_eq_false (Int.lt_irrefl _),cond_false,hed]
      exact close acc [125] rfl ha) x.items 0 [q1h x] List.drop_zero (Nat.zero_le _) (by simp only[List.length_cons,List.length_nil]; omega)
    rw[hop]at key ⊢
    have hJ:gQ2e (fun a0 a1 a2=>if relV a0 x then tQ56 a0 a1 a2 else none) x (d:Int) (m:Int) ((inn m:Nat):Int)=some (([123]::(q1q x.kind x.keys (inn m) 0 x.items++[spc m++endS x])).map bS):=key
    by_cases h:(IntKind.i64.wrap ((m:Int)+2)) > 64
    ·rw[decide_eq_true h,cond_true]at hinn ⊢
     rw[hinn]; exact hJ
    ·rw[decide_eq_false h,cond_false]at hinn ⊢
     rw[hinn]; exact hJ
end Abs
end Go.Proofs.YtpidpioifnnllaaGreatDoor
namespace Go.Proofs.YtpidpioifnnllaaGreatDoor
set_option linter.unusedSimpArgs false
set_option linter.unusedVariables false
open Go.RowKit Go.Lib
namespace Abs
set_option maxRecDepth 100000
def nl:List (List UInt8)→List UInt8
 | []=>[]
 | [e]=>e
 | e::t::r=>e++(10::nl (t::r))
theorem q6g {e:List UInt8} {t:List (List UInt8)} (h:t≠[]):nl (e::t)=e++(10::nl t):=by
 cases t with
 | nil=>exact absurd rfl h
 | cons a b=>rfl
theorem qbo:∀ {a b:List (List UInt8)},a≠[]→b≠[]→nl (a++b)=nl a++(10::nl b)
 | [],b,h,_=>absurd rfl h
 | [e],b,_,h=>by rw[List.singleton_append,q6g h]; rfl
 | e::t::r,b,_,h=>by
  have ih:=qbo (a:=t::r) (b:=b) (by simp) h
  rw[List.cons_append,q6g (by simp),ih,q6g (t:=t::r) (by simp)]
  simp
theorem qox {pre:List UInt8} {c:Bool} {k:Nat} {ls:List (List UInt8)} (h:ls≠[]):adjI pre c k ls≠[]:=by
 cases ls with
 | nil=>exact absurd rfl h
 | cons e t=>simp[adjI]
theorem qlp (pre:List UInt8) (c:Bool):∀ (t:List (List UInt8)) (k:Nat),t≠[]→nl (adjI pre c k t)=(if k=0 then pre else [])++nl t++comL c
 | [],k,h=>absurd rfl h
 | [e],k,_=>by
  show (if k=0 then pre++e else e)++comL (true && c)=_
  rw[Bool.true_and]
  by_cases h:k=0
  ·simp[h,nl]
  ·simp[h,nl]
 | e::a::r,k,_=>by
  have ih:=qlp pre c (a::r) (k+1) (by simp)
  rw[if_neg (by omega)]at ih
  have e1:adjI pre c k (e::a::r)=((if k=0 then pre++e else e)++comL ((a::r).isEmpty && c))::adjI pre c (k+1) (a::r):=by simp only[adjI]
  rw[e1,q6g (qox (by simp)),ih,q6g (t:=a::r) (by simp)]
  rw[show comL ((a::r).isEmpty && c)=[] from rfl]
  by_cases h:k=0
  ·simp[h]
  ·simp[h]
theorem qlo (pre:List UInt8) (c:Bool) {ls:List (List UInt8)} (h:ls≠[]):nl (adj pre c ls)=pre++nl ls++comL c:=by
 rw[← qcu pre c h,qlp pre c ls 0 h,if_pos rfl]
theorem qgz {pre:List UInt8} {c:Bool} {ls:List (List UInt8)} (h:ls≠[]):adj pre c ls≠[]:=by
 intro q
 have:=qa8 pre c ls
 rw[q]at this
 exact h (List.length_eq_zero_iff.1 this.symm)
theorem qkq {k:Int} {keys:List ByteArray} {m j:Nat} {x:Val} {r:List Val}:q1q k keys m j (x::r)≠[]:=by
 simp only[q1q]
 intro q
 exact qgz (q5k x m) (List.append_eq_nil_iff.1 q).1
def lels (k:Int) (keys:List ByteArray) (m:Nat):Nat→List Val→List (List UInt8)
 | _,[]=>[]
 | j,x::r=>((10::spc m)++qj k keys j++nl (qo x m))::lels k keys m (j+1) r
theorem qki (k:Int) (keys:List ByteArray) (m:Nat):∀ (r:List Val) (j:Nat) (x:Val),10::nl (q1q k keys m j (x::r))=jn (lels k keys m j (x::r))
 | [],j,x=>by
  simp only[q1q,lels,jn,List.append_nil]
  rw[qlo _ _ (q5k x m)]
  simp[comL]
 | y::r,j,x=>by
  have ih:=qki k keys m r (j+1) y
  have e1:q1q k keys m j (x::y::r)=adj (spc m++qj k keys j) true (qo x m)++q1q k keys m (j+1) (y::r):=by simp only[q1q]; rfl
  have e2:jn (lels k keys m j (x::y::r))=((10::spc m)++qj k keys j++nl (qo x m))++(44::jn (lels k keys m (j+1) (y::r))):=by simp only[lels,jn]
  rw[e1,e2,qbo (qgz (q5k x m)) qkq,qlo _ _ (q5k x m),← ih]
  simp[comL]
theorem qkj (k:Int) (keys:List ByteArray) (m:Nat):∀ (l:List Val) (i:Nat),(lels k keys m i l).length=l.length
 | [],_=>rfl
 | x::r,i=>by simp only[lels,List.length_cons,qkj k keys m r (i+1)]
theorem qkh (k:Int) (keys:List ByteArray) (m:Nat):∀ (l:List Val) (i j:Nat) (e:List UInt8) (x:Val),(lels k keys m i l)[j]?=some e→l[j]?=some x→e=(10::spc m)++qj k keys (i+j)++nl (qo x m)
 | [],_,j,e,x,h,_=>by simp[lels]at h
 | y::r,i,0,e,x,h,h2=>by
  simp only[lels,List.getElem?_cons_zero,Option.some.injEq]at h h2
  subst h2; rw[← h]; rfl
 | y::r,i,j+1,e,x,h,h2=>by
  simp only[lels,List.getElem?_cons_succ]at h h2
  have:=qkh k keys m r (i+1) j e x h h2
  rw[this,show i+1+j=i+(j+1) by omega]
theorem qtb {x:Val} (m:Nat) {a:Val} {r:List Val} (h:x.items=a::r):nl (qo x m)=q1h x++(jn (lels x.kind x.keys (inn m) 0 x.items)++((10::spc m)++endS x)):=by
 rw[q6b,if_neg (by rw[h]; simp),h,q6g (by simp),qbo qkq (by simp),← qki]
 simp[nl]
theorem qc0 (m:Nat):q27 (10::spc m):=by
 intro c hc
 rcases List.mem_cons.1 hc with rfl | hc
 ·decide
 ·unfold spc at hc
  rw[List.eq_of_mem_replicate hc]; decide
theorem qsp {d:Nat} {items:List Val} {es:List (List UInt8)} {b:List UInt8} (hne:items≠[]) (hl:es.length=items.length) (hb:q27 b) (h:∀ (i:Nat) e x,es[i]?=some e→items[i]?=some x→Rds d x e) :
  Rds (d+1) (.mk 4 0 eS items []) ([91]++(jn es++(b++[93]))):=fun r hr=>by
 have he:[91]++(jn es++(b++[93]))++r=91::(jn es++(b++93::r)):=by simp
 have hnes:es≠[]:=by intro q; rw[q]at hl; exact hne (List.length_eq_zero_iff.1 hl.symm)
 have hread:=qer (d:=d) hb r es items ((jn es++(b++93::r)).length+1) [] hnes (by
   have h1:=q90 es
   simp only[List.length_append,List.length_cons]at h1 ⊢
   omega) hl h
 have hfirst:∃ x r1,qg finV d (jn es++(b++93::r))=.inr (x,r1):=by
  cases items with
  | nil=>exact absurd rfl hne
  | cons x t =>
   cases es with
   | nil=>exact absurd rfl hnes
   | cons e es =>
    have hx:=h 0 e x rfl rfl
    cases es with
    | nil=>exact ⟨x,_,hx _ (qc6 hb (by decide) r)⟩
    | cons e2 es =>
     refine ⟨x,44::(jn (e2::es)++(b++93::r)),?_⟩
     rw[show jn (e::e2::es)=e++(44::jn (e2::es)) from rfl,List.append_assoc,List.cons_append]
     exact hx _ (stop44 _)
 obtain ⟨x,r1,hfirst⟩:=hfirst
 obtain ⟨c,t2,hbl,hc⟩:=qmq hfirst 93 (.inl rfl)
 rw[he]
 generalize jn es++(b++93::r)=R at *
 have hsame:q1r (qg finV d) (R.length+1) (qc R) []=q1r (qg finV d) (R.length+1) R []:=by unfold q1r; rw[q4j]
 unfold qg
 rw[q1i,if_neg (by decide)]
 simp only
 rw[if_pos trivial]
 unfold q3c
 rw[hbl]at hsame ⊢
 simp only
 rw[if_neg hc,hsame,hread]
 rfl
theorem qk4 {L r:List UInt8} {k:ByteArray} (h:keyS [] L=.inr (k,r)):∃ t,qc L=34::t:=by
 unfold keyS at h
 cases hb:qc L with
 | nil=>rw[hb]at h; cases h
 | cons c t =>
  rw[hb]at h
  simp only at h
  split at h
  ·rename_i hc; subst hc; exact ⟨t,rfl⟩
  ·cases h
theorem qt4 {d:Nat} {items:List Val} {keys:List ByteArray} {es:List (List UInt8×List UInt8)} {b:List UInt8} (hne:items≠[]) (hl:keys.length=items.length) (hs:keys.Pairwise fun a b=>Op.bytesLess a.toList b.toList=true) (hle:es.length=items.length) (hb:q27 b)
  (h:∀ (i:Nat) e x,es[i]?=some e→items[i]?=some x→Rds d x e.2) (hk:∀ (i:Nat) e n,es[i]?=some e→keys[i]?=some n→RdK n e.1) :
  Rds (d+1) (.mk 5 0 eS items keys) ([123]++(jn (es.map fun e=>e.1++e.2)++(b++[125]))):=fun r hr=>by
 have hnd:keys.Nodup:=hs.imp fun {a b} h e=>by subst e; rw[q7d]at h; cases h
 have he:[123]++(jn (es.map fun e=>e.1++e.2)++(b++[125]))++r=123::(jn (es.map fun e=>e.1++e.2)++(b++125::r)):=by simp
 have hnes:es≠[]:=by intro q; rw[q]at hle; exact hne (List.length_eq_zero_iff.1 hle.symm)
 have hread:=qf1 (d:=d) hb r es keys items ((jn (es.map fun e=>e.1++e.2)++(b++125::r)).length+1) [] [] hnes (by
   have h1:=q90 (es.map fun e=>e.1++e.2)
   rw[List.length_map]at h1
   simp only[List.length_append,List.length_cons]at h1 ⊢
   omega) hle (by rw[hle,hl]) hnd h hk
 have hfirst:∃ t,qc (jn (es.map fun e=>e.1++e.2)++(b++125::r))=34::t:=by
  cases es with
  | nil=>exact absurd rfl hnes
  | cons e es =>
   cases keys with
   | nil=>exact absurd (List.length_eq_zero_iff.1 (by simpa using hl.symm)) hne
   | cons n ns =>
    have hkk:=hk 0 e n rfl rfl
    cases es with
    | nil =>
     have:=hkk (e.2++(b++125::r))
     rw[show jn ([e].map fun e=>e.1++e.2)=e.1++e.2 from rfl,List.append_assoc]
     exact qk4 this
    | cons e2 es =>
     have:=hkk (e.2++(44::jn ((e2::es).map fun e=>e.1++e.2)++(b++125::r)))
     rw[show jn ((e::e2::es).map fun e=>e.1++e.2)=(e.1++e.2)++(44::jn ((e2::es).map fun e=>e.1++e.2)) from rfl,List.append_assoc,List.append_assoc]
     exact qk4 this
 obtain ⟨t2,hbl⟩:=hfirst
 rw[he]
 generalize jn (es.map fun e=>e.1++e.2)++(b++125::r)=R at *
 have hsame:mapF (qg finV d) finV (R.length+1) (qc R) [] []=mapF (qg finV d) finV (R.length+1) R [] []:=by unfold mapF; rw[qei]
 unfold qg
 rw[q1i,if_neg (by decide)]
 simp only
 rw[if_neg (by decide),if_pos trivial]
 unfold mapS
 rw[hbl]at hsame ⊢
 simp only
 rw[if_neg (by decide),hsame,hread]
 simp only[List.nil_append]
 rw[qj0 hl hs]
def lkels (keys:List ByteArray) (m:Nat):Nat→List Val→List (List UInt8×List UInt8)
 | _,[]=>[]
 | j,x::r=>((10::spc m)++(q12 (bL (keys.getD j eS))++[58]),[32]++nl (qo x m))::lkels keys m (j+1) r
theorem ql0 (keys:List ByteArray) (m:Nat):∀ (l:List Val) (i:Nat),i+l.length≤keys.length→lels 5 keys m i l=(lkels keys m i l).map fun e=>e.1++e.2
 | [],_,_=>rfl
 | x::r,i,h=>by
  simp only[List.length_cons]at h
  simp only[lels,lkels,List.map_cons]
  rw[ql0 keys m r (i+1) (by omega)]
  have hi:i < keys.length:=by omega
  have e:qj 5 keys i=q12 (bL (keys.getD i eS))++[58,32]:=by
   unfold qj
   rw[if_pos rfl,List.getD_eq_getElem?_getD,List.getElem?_eq_getElem hi]; rfl
  rw[e]
  simp
theorem qet (keys:List ByteArray) (m:Nat):∀ (l:List Val) (i:Nat),(lkels keys m i l).length=l.length
 | [],_=>rfl
 | x::r,i=>by simp only[lkels,List.length_cons,qet keys m r (i+1)]
theorem qes (keys:List ByteArray) (m:Nat):∀ (l:List Val) (i j:Nat) (e:List UInt8×List UInt8) (x:Val),(lkels keys m i l)[j]?=some e→l[j]?=some x→e=((10::spc m)++(q12 (bL (keys.getD (i+j) eS))++[58]),[32]++nl (qo x m))
 | [],_,j,e,x,h,_=>by simp[lkels]at h
 | y::r,i,0,e,x,h,h2=>by
  simp only[lkels,List.getElem?_cons_zero,Option.some.injEq]at h h2
  subst h2; rw[← h]; rfl
 | y::r,i,j+1,e,x,h,h2=>by
  simp only[lkels,List.getElem?_cons_succ]at h h2
  have:=qes keys m r (i+1) j e x h h2
  rw[this,show i+1+j=i+(j+1) by omega]
theorem qks:∀ (d e:Nat) (x:Val) (m:Nat),Good e x→e≤d→Rds d x (nl (qo x m))
 | 0,e,x,m,hg,he=>by
  obtain ⟨e',h,_⟩:=hg.item
  omega
 | d+1,e,x,m,hg,he=>by
  by_cases hnil:x.items=[]
  ·have h:=qdz (d+1) e x hg he
   have e1:fmtV x=q25 x:=by rw[q5e,if_pos hnil]
   have e2:qo x m=[q25 x]:=by rw[q6b,if_pos hnil]
   rw[e2]; rw[e1]at h; exact h
  ·obtain ⟨hsh,hnum,htx,hke⟩:=q99 hg.node
   obtain ⟨k0,k6,s1,s2,s3,s4,s5,s6⟩:=q7x hsh
   obtain ⟨e',he',hit⟩:=hg.item
   have hkt:=qel _ _ hke
   have hpw:=(qek _ _ hke).2
   have hin:∀ y ∈ x.items,Rds d y (nl (qo y (inn m))):=fun y hy=>qks d e' y (inn m) (hit y hy) (by omega)
   obtain ⟨a,r,hx⟩:∃ a r,x.items=a::r:=by
    cases h:x.items with
    | nil=>exact absurd h hnil
    | cons a r=>exact ⟨a,r,rfl⟩
   rw[qtb m hx]
   obtain ⟨k,n,s,items,keys⟩:=x
   simp only[Val.kind,Val.num,Val.str,Val.items,Val.keys]at k0 k6 s1 s2 s3 s4 s5 s6 hnum htx hkt hpw hin hnil ⊢
   have hk:k=4∨k=5:=by
    by_cases h4:k=4
    ·exact .inl h4
    ·by_cases h5:k=5
     ·exact .inr h5
     ·exact absurd (s4 h4 h5) hnil
   rcases hk with rfl | rfl
   ·obtain rfl:=s1 (by decide) (by decide)
    obtain rfl:=s3 (by decide)
    obtain rfl:=s6 (by decide)
    refine qsp (b:=10::spc m) hnil (qkj _ _ _ _ _) (qc0 m) (fun i e y h1 h2=>?_)
    have:=qkh 4 [] (inn m) items 0 i e y h1 h2
    rw[this,show qj 4 [] (0+i)=[] from by unfold qj; rw[if_neg (by decide)],List.append_nil]
    exact (hin y (List.mem_of_getElem? h2)).blanks (qc0 _)
   ·obtain rfl:=s1 (by decide) (by decide)
    obtain rfl:=s3 (by decide)
    have hl:=s5 rfl
    rw[ql0 keys (inn m) items 0 (by omega)]
    refine qt4 (b:=10::spc m) hnil hl hpw (qet _ _ _ _) (qc0 m) (fun i e y h1 h2=>?_) (fun i e n h1 h2=>?_)
    ·have:=qes keys (inn m) items 0 i e y h1 h2
     rw[this]
     exact (hin y (List.mem_of_getElem? h2)).blanks (fun c hc=>by rw[List.mem_singleton.1 hc]; decide)
    ·have hj:=(List.getElem?_eq_some_iff.1 h1).1
     rw[qet]at hj
     have:=qes keys (inn m) items 0 i e _ h1 (List.getElem?_eq_getElem hj)
     rw[this]
     have hn:keys.getD (0+i) eS=n:=by rw[Nat.zero_add,List.getD_eq_getElem?_getD,h2]; rfl
     simp only
     rw[hn]
     exact qk6 (hkt n (List.mem_of_getElem? h2)) (qc0 _)
theorem qnx {L:List ByteArray} (hL:L.length≤1000000):∀ (m k:Nat),k+m=L.length→qf (gQ0j L L) (k:Int)=some true
 | 0,k,h=>by
  refine qs ?_
  unfold gQ0j
  rw[decide_eq_false (by omega),cond_false]
 | m+1,k,h=>by
  rw[← qnx hL m (k+1) (by omega)]
  refine q1v ?_
  unfold gQ0j
  rw[decide_eq_true (by omega),cond_true,q1n,List.getElem?_eq_getElem (by omega),Option.bind_some,Option.bind_some,decide_eq_true (rfl:L[k]=L[k]),Bool.not_true,cond_false,q13 (by omega) (by omega)]
  rfl
theorem qwd {L:List ByteArray} (hL:L.length≤1000000):gQ0i L L=some true:=by
 unfold gQ0i
 rw[decide_eq_true (rfl:(L.length:Int)=(L.length:Int)),Bool.not_true,cond_false]
 exact qnx hL L.length 0 (by omega)
theorem qlq {B:Nat}:∀ {l:List (List UInt8)},(∀ z ∈ l,z.length≤B)→(nl l).length≤l.length*(B+1)
 | [],_=>by simp[nl]
 | [e],h=>by
  have:=h e List.mem_cons_self
  simp only[nl,List.length_cons,List.length_nil]; omega
 | e::t::r,h=>by
  have ih:=qlq (l:=t::r) (fun z hz=>h z (List.mem_cons_of_mem _ hz))
  have:=h e List.mem_cons_self
  rw[q6g (by simp),List.length_append,List.length_cons]
  have e3:(e::t::r).length*(B+1)=(B+1)+(t::r).length*(B+1):=by rw[show (e::t::r).length=(t::r).length+1 from rfl,Nat.add_mul]; omega
  omega
theorem qwa {α:Type} {l:List α} {i:Nat} {e:α} (h:l[i]?=some e):l.take (i+1)=l.take i++[e]:=by
 rw[List.take_add_one,h]; rfl
theorem qgu (v:Val) (ls:List (List UInt8)) (hn:ls.length≤10000) (hz:∀ z ∈ ls,z.length≤10000000) {R:Option ((ByteArray×Int)⊕Bool)} {b:Bool} (hR:R=some (.inr b))
  (hend:gQ07 v (ls.map bS) (bS (nl ls),(ls.length:Int))=R):∀ (m k:Nat),k+m=ls.length→qf (gQ07 v (ls.map bS)) (bS (nl (ls.take k)),(k:Int))=some b
 | 0,k,h=>by
  obtain rfl:k=ls.length:=by omega
  rw[List.take_length]
  exact qs (hend.trans hR)
 | m+1,k,h=>by
  rw[← qgu v ls hn hz hR hend m (k+1) (by omega)]
  have hk:k < ls.length:=by omega
  have hget:=List.getElem?_eq_getElem hk
  have he:=hz _ (List.getElem_mem hk)
  have htk:∀ z ∈ ls.take k,z.length≤10000000:=fun z h=>hz z (List.mem_of_mem_take h)
  have hlen:=qlq htk
  rw[List.length_take,Nat.min_eq_left (by omega)]at hlen
  have hb:(nl (ls.take k)).length≤10000*10000001:=Nat.le_trans hlen (Nat.mul_le_mul_right _ (by omega))
  refine q1v ?_
  unfold gQ07
  simp only[List.length_map]
  rw[decide_eq_true (show (k:Int) < (ls.length:Int) by omega),cond_true,qeu hget,qwa hget]
  simp only[Option.bind_some]
  by_cases h0:k=0
  ·subst h0
   rw[decide_eq_false (by decide),cond_false,q14 _ _ (by omega),Option.bind_some,q13 (by omega) (by omega)]
   simp[nl]
  ·rw[decide_eq_true (show (k:Int) > 0 by omega),cond_true,show (⟨#[10]⟩:ByteArray)=bS [10] from rfl,q14 _ _ (by simp only[List.length_cons,List.length_nil]; omega)]
   simp only[Option.bind_some]
   rw[q14 _ _ (by rw[List.length_append]; simp only[List.length_cons,List.length_nil]; omega)]
   simp only[Option.bind_some]
   have hne:ls.take k≠[]:=by
    intro q
    have:=congrArg List.length q
    rw[List.length_take]at this
    simp only[List.length_nil]at this
    omega
   rw[qbo hne (by simp),q13 (by omega) (by omega)]
   simp[nl]
theorem qsd (v:Val) (i:Int) (hf:v.Fits):gQ06 v i=some true:=by
 obtain ⟨b,hb,hc⟩:=qdw v hf
 unfold gQ06
 rw[hb,Option.bind_some,awake]
 cases b with
 | false=>rfl
 | true =>
  have hck:=hc rfl
  have hg:=q75 hck
  have hnd:=qdj hck
  obtain ⟨m,hm,hcl⟩:∃ m:Nat,m≤64∧clampI i=(m:Int):=⟨(clampI i).toNat,by unfold clampI; split <;> split <;> omega,by unfold clampI; split <;> split <;> omega⟩
  have h9:gQ1i v i=some ((qo v m).map bS):=by
   unfold gQ1i
   have:=qsk v 32 0 i m hm hcl (by decide) hg hf hnd
   rw[show ((0:Nat):Int)=0 from rfl]at this
   rw[this]; rfl
  rw[qkt v 32 i m hm hcl (Nat.le_refl _) hg hf hnd,h9]
  have hcnt:=q6c v m
  have hsh:∀ z ∈ qo v m,z.length≤10000000:=fun z hz=>by have:=qbb v m 32 hm hg hf z hz; omega
  simp only[Bool.not_true,cond_false,Option.bind_some]
  rw[qwd (by rw[List.length_map]; omega)]
  simp only[Bool.not_true,cond_false,Option.bind_some]
  have:=qgu v (qo v m) (by omega) hsh (R:=some (.inr true)) rfl (by
   unfold gQ07
   simp only[List.length_map]
   rw[decide_eq_false (Int.lt_irrefl _),cond_false,q50,awake,q26]
   simp only[Option.bind_some]
   by_cases h:65536 < (nl (qo v m)).length
   ·rw[decide_eq_true (show ((nl (qo v m)).length:Int) > 65536 by omega)]; rfl
   ·have:=qm3 (b:=[]) hck (qks 32 32 v m hg (Nat.le_refl _)) (fun c hc=>absurd hc List.not_mem_nil) (by simp only[List.length_nil]; omega)
    rw[List.append_nil]at this
    rw[this,decide_eq_false (show ¬ ((nl (qo v m)).length:Int) > 65536 by omega)]
    simp only[Option.bind_some,cond_false,decide_true,Bool.and_true,cond_true]
    rw[q9i hf]
    rfl) (qo v m).length 0 (by omega)
  exact this
end Abs
end Go.Proofs.YtpidpioifnnllaaGreatDoor
