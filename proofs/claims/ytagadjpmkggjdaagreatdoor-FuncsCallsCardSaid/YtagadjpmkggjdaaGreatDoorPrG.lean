import Derived.Test.YtagadjpmkggjdaaGreatDoorPlFun
namespace Go.Proofs.YtagadjpmkggjdaaGreatDoor
set_option linter.unusedSimpArgs false
set_option linter.unusedVariables false
namespace Abs
open Go.RowKit
theorem q22 (v:Val):gQ7a v=some (decide (v.kind=6)):=rfl
def rkB:Nm->ByteArray
 | .nAbs|.nMax|.nMin|.nRange=>⟨#[110]⟩
 | .nConcat|.nDistinct|.nFlatten|.nReverse=>⟨#[108]⟩
 | .nContains|.nIndex=>⟨#[108,97]⟩
 | .nElement=>⟨#[108,110]⟩
 | .nEndswith|.nStartswith|.nSplit|.nReplace|.nLower|.nUpper|.nTrim=>⟨#[115]⟩
 | .nJoin=>⟨#[115,83]⟩
 | .nKeys|.nValues|.nMerge=>⟨#[109]⟩
 | .nLength=>⟨#[120]⟩
 | .nLookup=>⟨#[109,115,97]⟩
 | .nSlice=>⟨#[108,110,110]⟩
 | .nSort=>⟨#[83]⟩
 | .nSum=>⟨#[78]⟩
 | .nZipmap=>⟨#[83,108]⟩
 | _=>⟨#[97]⟩
theorem rkinds (k:Nm):gQ6q (nmB k)=some (rkB k):=by cases k<;>rfl
theorem qc2 (k:Nm):1<=(rkB k).size/\(rkB k).size<=3:=by cases k<;>exact ⟨by decide,by decide⟩
def rlett (k:Nm) (i:Nat):Int:=(((rkB k).data.toList.getD (min i ((rkB k).size - 1)) 0).toNat:Nat)
theorem qxc (k:Nm) {i:Nat} (h:2<=i):rlett k i=rlett k 2:=by
 have:=qc2 k
 unfold rlett
 rw[show min i ((rkB k).size - 1)=min 2 ((rkB k).size - 1) by omega]
theorem lett_two' (k:Nm) {i:Nat} (h:2<=i):lett k i=lett k 2:=by
 have:=qk4 k
 unfold lett
 rw[show min i ((spB k).kinds.size - 1)=min 2 ((spB k).kinds.size - 1) by omega]
theorem qmm (k:Nm) (i:Nat):rlett k i=if lett k i=99 then 120 else lett k i:=by
 match i with
 | 0=>cases k<;>rfl
 | 1=>cases k<;>rfl
 | i+2 =>
  rw[qxc k (show 2<=i+2 by omega),lett_two' k (show 2<=i+2 by omega)]
  cases k<;>rfl
theorem qm3 (l : List Val) (k : Int) (hl : l.length <= 9223372036854775807) : gQ5j l k = some (l.all fun x => isK x [k]) := by
  unfold gQ5j
  refine qt (body := gQ5k l k) l (fun i (_ : Unit) => (i : Int)) (fun _ r => r.all fun x => isK x [k]) (fun _ _ => True) (a := ()) rfl trivial (fun _ _ => ?_) (fun i x r _ hi hx _ _ => ?_)
  . simp only [gQ5k, dF_ (show ¬(l.length : Int)<l.length by omega), cF_, List.all_nil]
  . simp only [gQ5k, dT_ (show (i : Int)<l.length by omega), cT_, q9, hx, oB_, List.all_cons, q22, qg hi hl]
    by_cases h1 : x.kind = k
    . left
      rw [dT_ h1, q53.2 (.inl h1)];exact ⟨(), trivial, rfl, rfl⟩
    by_cases h2 : x.kind = 6
    . left
      rw [dF_ h1, dT_ h2, q53.2 (.inr h2)];exact ⟨(), trivial, rfl, rfl⟩
    . right
      have : isK x [k] = false := by
        cases e : isK x [k] with
        | false => rfl
        | true => rcases q53.1 e with h|h
                  . exact absurd h h1
                  . exact absurd h h2
      rw [dF_ h1, dF_ h2, this];rfl
theorem isK_eq (v:Val) (k:Int) (h6:v.kind≠6):isK v [k]=decide (v.kind=k):=by
 unfold isK
 rw[dF_ h6];simp
theorem qx1 {v:Val} (c:Ck v) (x:Int) (hl:v.items.length<=9223372036854775807) (hx:x≠99->x≠120):gQ6i v (if x=99 then 120 else x)=some (fitK v x):=by
 unfold gQ6i
 rw[q22,oB_]
 by_cases h6:v.kind=6
 .have e:=qci c.ok h6
  subst e
  rw[dT_ (show vU.kind=6 from rfl),cT_]
  unfold fitK
  split
  .rfl
  split
  .rfl
  split
  .rfl
  split
  .rfl
  split
  .rfl
  split
  .rfl
  split<;>rfl
 rw[dF_ h6,cF_,qm3 v.items 3 hl,qm3 v.items 2 hl]
 by_cases h99:x=99
 .subst h99
  show (bif decide (v.kind=3) then some true else bif decide (v.kind=4) then some true else some (decide (v.kind=5)))=some (isK v [3,4,5])
  unfold isK
  rw[dF_ h6]
  simp only[List.any_cons,List.any_nil]
  cases decide (v.kind=3)<;>cases decide (v.kind=4)<;>cases decide (v.kind=5)<;>rfl
 rw[if_neg h99]
 have h120:=hx h99
 unfold fitK
 simp only[isK_eq v _ h6,allK]
 by_cases h1:x=110
 .rw[dT_ h1,if_pos h1];rfl
 rw[dF_ h1,if_neg h1,cF_]
 by_cases h2:x=115
 .rw[dT_ h2,if_pos h2];rfl
 rw[dF_ h2,if_neg h2,cF_]
 by_cases h3:x=108
 .rw[dT_ h3,if_pos h3];rfl
 rw[dF_ h3,if_neg h3,cF_]
 by_cases h4:x=109
 .rw[dT_ h4,if_pos h4];rfl
 rw[dF_ h4,if_neg h4,cF_]
 by_cases h5:x=83
 .subst h5
  show (bif decide (v.kind=4) then _ else _)=some (decide (v.kind=4)&&_)
  cases decide (v.kind=4)<;>rfl
 rw[dF_ h5,cF_]
 by_cases h7:x=78
 .subst h7
  show (bif decide (v.kind=4) then _ else _)=some (decide (v.kind=4)&&_)
  cases decide (v.kind=4)<;>rfl
 rw[dF_ h7,if_neg h7,cF_,if_neg h5,dF_ h120,if_neg h99];rfl
theorem qtk (k:Nm) (i:Nat):lett k i≠120:=by
 match i with
 | 0=>cases k<;>decide
 | 1=>cases k<;>decide
 | i+2=>rw[lett_two' k (show 2<=i+2 by omega)];cases k<;>decide
theorem rkat (k:Nm) (i:Nat) (h:i<(rkB k).size):sidx (rkB k) (i:Int)=some (rlett k i):=by
 unfold rlett
 rw[qfp h,show min i ((rkB k).size - 1)=i by omega,List.getD_eq_getElem?_getD,gE_ (by simpa using h)];rfl
theorem qx6 (k:Nm) {i:Nat} (h:(rkB k).size<=i):rlett k ((rkB k).size - 1)=rlett k i:=by
 have:=qc2 k
 unfold rlett
 rw[show min ((rkB k).size - 1) ((rkB k).size - 1)=min i ((rkB k).size - 1) by omega]
theorem qyd (k:Nm) {l:List Val} (ha:Args l):gQ83 (nmB k) l=some (q37 k l):=by
 unfold gQ83
 rw[rkinds,oB_]
 have hlen:=ha.len
 have hs:=qc2 k
 have:=qt (body:=gQ84 l (rkB k)) l.zipIdx (fun i (_:Unit)=>(i:Int)) (fun _ r=>r.all fun p=>fitK p.1 (lett k p.2)) (fun _ _=>True) (s0:=0) (a:=()) rfl trivial (fun _ _=>?_) (fun i x r _ hi hx _ _=>?_)
 .exact this
 .simp only[gQ84,List.length_zipIdx,dF_ (show ¬(l.length:Int)<l.length by omega),cF_,List.all_nil]
 .rw[List.length_zipIdx]at hi
  rw[List.getElem?_zipIdx,gE_ hi]at hx
  simp only[Option.map_some,Nat.zero_add,Option.some.injEq]at hx
  subst hx
  have c:=ha.ck _ (List.getElem_mem hi)
  have hil:=q16 l[i]
  have hin:=ha.nodes _ (List.getElem_mem hi)
  have hfit:gQ6i l[i] (rlett k i)=some (fitK l[i] (lett k i)):=by
   rw[qmm];exact qx1 c _ (by omega) fun _=>qtk k i
  have e:gQ84 l (rkB k) (i:Int)=bif (!fitK l[i] (lett k i)) then some (.inr false) else some (.inl ((i+1:Nat):Int)):=by
   by_cases h:(rkB k).size<=i
   .have hw:IntKind.i64.wrap (((rkB k).size:Int) - 1)=(((rkB k).size - 1:Nat):Int):=by rw[qy (by omega) (by omega)];omega
    simp only[gQ84,dT_ (show (i:Int)<l.length by omega),cT_,dT_ (show (i:Int) >= (rkB k).size by omega),q9,gE_ hi,oB_,hw,rkat k _ (show (rkB k).size - 1<(rkB k).size by omega),qx6 k h,hfit,qg hi (show l.length<=9223372036854775807 by omega)]
   .simp only[gQ84,dT_ (show (i:Int)<l.length by omega),cT_,dF_ (show ¬(i:Int) >= (rkB k).size by omega),cF_,q9,gE_ hi,oB_,rkat k i (by omega),hfit,qg hi (show l.length<=9223372036854775807 by omega)]
  simp only[List.all_cons]
  rw[e]
  cases fitK l[i] (lett k i) with
  | false=>right;rfl
  | true=>left;exact ⟨(),trivial,rfl,rfl⟩
theorem rstrict (k:Nm):gQ7j (nmB k)=some (spB k).strict:=by cases k<;>rfl
theorem qjp (l:List Val) (hl:l.length<=9223372036854775807) {O:Type} (o1 o2:O) {body:Int->Option (Int⊕O)}
  (hb:∀(i:Nat) (x:Val),i<l.length->l[i]?=some x->body (i:Int)=if x.kind=6 then some (.inr o1) else some (.inl ((i+1:Nat):Int))) (he:body (l.length:Int)=some (.inr o2)) :
  q7 body 0=some (if (l.any fun x=>decide (x.kind=6))=true then o1 else o2):=by
 refine qt (body:=body) l (fun i (_:Unit)=>(i:Int)) (fun _ r=>if (r.any fun x=>decide (x.kind=6))=true then o1 else o2) (fun _ _=>True) (a:=()) rfl trivial (fun _ _=>?_) (fun i x r _ hi hx _ _=>?_)
 .rw[he];rfl
 .rw[hb i x hi hx]
  by_cases h:x.kind=6
  .right;rw[if_pos h,List.any_cons,dT_ h];rfl
  .left;rw[if_neg h,List.any_cons,dF_ h];exact ⟨(),trivial,rfl,rfl⟩
theorem qee {v:Val} (c:Ck v) (h6:v.kind≠6) (h:∀x∈v.items,(x.kind=2\/x.kind=3)\/x.kind=6):qc v=!(v.items.any fun x=>decide (x.kind=6)):=by
 rw[q87,dT_ h6,Bool.true_and,List.not_any_eq_all_not]
 rw[Bool.eq_iff_iff,List.all_eq_true,List.all_eq_true]
 constructor
 .intro g x hx
  have:=q24 (g x hx)
  simpa using this
 .intro g x hx
  have g6:x.kind≠6:=by simpa using g x hx
  refine q9h g6 fun y hy=>?_
  rw[(c.item x hx).ok.shape.2.2.2.2.2.1 (by have:=h x hx;omega) (by have:=h x hx;omega)]at hy
  exact absurd hy mN_
theorem qwd (k:Nm) {l:List Val} (ha:Args l) (hb:arOk k l=true) (hf:q37 k l=true):gQ5q (nmB k) l=some (q17 k l):=by
 unfold gQ5q
 rw[rkinds,oB_]
 have hlen:=ha.len
 have hsz:=qc2 k
 have hmost:(l.length:Int)<=(spB k).most:=by
  unfold arOk at hb
  simp only[Bool.and_eq_true,decide_eq_true_eq]at hb
  exact hb.2
 have:=qt (body:=gQ5r l (rkB k)) l.zipIdx (fun i (_:Unit)=>(i:Int)) (fun _ r=>r.any fun p=>decide (p.1.kind=6) || ((decide (lett k p.2=78) || decide (lett k p.2=83))&&!qc p.1)) (fun _ _=>True) (s0:=0) (a:=()) rfl trivial (fun _ _=>?_) (fun i x r _ hi hx _ _=>?_)
 .exact this
 .simp only[gQ5r,List.length_zipIdx,dF_ (show ¬(l.length:Int)<l.length by omega),cF_,List.any_nil]
 .rw[List.length_zipIdx]at hi
  rw[List.getElem?_zipIdx,gE_ hi]at hx
  simp only[Option.map_some,Nat.zero_add,Option.some.injEq]at hx
  subst hx
  have hxi:=gE_ hi
  have c:=ha.ck _ (List.getElem_mem hi)
  have hil:=q16 l[i]
  have hin:=ha.nodes _ (List.getElem_mem hi)
  have hfit:=q1u hf hxi
  have hrl:rlett k i=if lett k i=99 then 120 else lett k i:=qmm k i
  simp only[List.any_cons]
  have hbelow:lett k i=78\/lett k i=83->i<(rkB k).size:=by
   intro h
   match i,hi,h with
   | 0,_,_=>omega
   | 1,hi,h=>cases k<;>first|decide|(exfalso;revert h;decide)|(have h1:(l.length:Int)<=1:=hmost;omega)
   | i+2,hi,h =>
    rw[lett_two' k (show 2<=i+2 by omega)]at h
    cases k<;>first|(exfalso;revert h;decide)|(have h1:(l.length:Int)<=1:=hmost;omega)|(have h1:(l.length:Int)<=2:=hmost;omega)
  by_cases h6:l[i].kind=6
  .right
   simp only[gQ5r,dT_ (show (i:Int)<l.length by omega),cT_,q9,hxi,oB_,q22,dT_ h6,Bool.true_or]
  rw[dF_ h6,Bool.false_or]
  have step:gQ5r l (rkB k) (i:Int)=bif ((decide (lett k i=78) || decide (lett k i=83))&&!qc l[i]) then some (.inr true) else some (.inl ((i+1:Nat):Int)):=by
   have hw:=qg hi (show l.length<=9223372036854775807 by omega)
   by_cases h83:lett k i=83
   .have hlt:=hbelow (.inr h83)
    have hr:rlett k i=83:=by rw[hrl,h83];rfl
    have f:=q7y (by rw[←h83];exact hfit)
    rw[dT_ h83,Bool.or_true,Bool.true_and,qee c h6 (fun x hx=>by have:=f.2 x hx;omega),Bool.not_not]
    simp only[gQ5r,dT_ (show (i:Int)<l.length by omega),cT_,q9,hxi,oB_,q22,dF_ h6,cF_,dT_ (show (i:Int)<(rkB k).size by omega),rkat k i hlt,hr,decide_true]
    rw[qjp l[i].items (by omega) (body:=gQ5s l (i:Int)) (.inr true) (.inl ((i+1:Nat):Int)) (fun j x hj hx=>by
     simp only[gQ5s,q9,hxi,oB_,dT_ (show (j:Int)<l[i].items.length by omega),cT_,hx,q22,qg hj (show l[i].items.length<=9223372036854775807 by omega)]
     by_cases h:x.kind=6
     .rw[dT_ h,if_pos h];rfl
     .rw[dF_ h,if_neg h];rfl) (by simp only[gQ5s,q9,hxi,oB_,dF_ (show ¬(l[i].items.length:Int)<l[i].items.length by omega),cF_,hw])]
    cases (l[i].items.any fun x=>decide (x.kind=6))<;>rfl
   by_cases h78:lett k i=78
   .have hlt:=hbelow (.inl h78)
    have hr:rlett k i=78:=by rw[hrl,h78];rfl
    have f:=qdw (by rw[←h78];exact hfit)
    rw[dT_ h78,Bool.true_or,Bool.true_and,qee c h6 (fun x hx=>by have:=f.2 x hx;omega),Bool.not_not]
    simp only[gQ5r,dT_ (show (i:Int)<l.length by omega),cT_,q9,hxi,oB_,q22,dF_ h6,cF_,dT_ (show (i:Int)<(rkB k).size by omega),rkat k i hlt,hr,decide_true,show decide ((78:Int)=83)=false from rfl]
    rw[qjp l[i].items (by omega) (body:=gQ5t l (i:Int)) (.inr true) (.inl ((i+1:Nat):Int)) (fun j x hj hx=>by
     simp only[gQ5t,q9,hxi,oB_,dT_ (show (j:Int)<l[i].items.length by omega),cT_,hx,q22,qg hj (show l[i].items.length<=9223372036854775807 by omega)]
     by_cases h:x.kind=6
     .rw[dT_ h,if_pos h];rfl
     .rw[dF_ h,if_neg h];rfl) (by simp only[gQ5t,q9,hxi,oB_,dF_ (show ¬(l[i].items.length:Int)<l[i].items.length by omega),cF_,hw])]
    cases (l[i].items.any fun x=>decide (x.kind=6))<;>rfl
   rw[dF_ h83,dF_ h78]
   simp only[gQ5r,dT_ (show (i:Int)<l.length by omega),cT_,q9,hxi,oB_,q22,dF_ h6,cF_,hw,Bool.or_false,Bool.false_and]
   by_cases hlt:i<(rkB k).size
   .have hr:rlett k i≠83/\rlett k i≠78:=by
     rw[hrl];split
     .exact ⟨by decide,by decide⟩
     .exact ⟨h83,h78⟩
    simp only[dT_ (show (i:Int)<(rkB k).size by omega),cT_,rkat k i hlt,oB_,dF_ hr.1,dF_ hr.2,cF_]
   .simp only[dF_ (show ¬(i:Int)<(rkB k).size by omega),cF_]
  rw[step]
  cases ((decide (lett k i=78) || decide (lett k i=83))&&!qc l[i]) with
  | true=>right;rfl
  | false=>left;exact ⟨(),trivial,rfl,rfl⟩
open Go.RowKit
theorem rvalid18 (n:Int):gQ45 n=some (NumPlain.validB n):=by
 unfold gQ45
 by_cases h:n >= -9007199254740992
 .rw[dT_ h,cT_]
  congr 1
  rw[Bool.eq_iff_iff,decide_eq_true_eq,q2w];omega
 .rw[dF_ h,cF_]
  congr 1
  symm
  cases e:NumPlain.validB n with
  | false=>rfl
  | true=>have:=(q2w n).1 e;omega
theorem radd18 {a b:Int} (ha:NumPlain.validB a=true) (hb:NumPlain.validB b=true):gQ3z a b=some (if NumPlain.validB (a+b)=true then (a+b,0) else (0,5)):=by
 unfold gQ3z gQ47
 have h1:=(q2w a).1 ha
 have h2:=(q2w b).1 hb
 rw[rvalid18,oB_,ha,nT_,cF_,rvalid18,oB_,hb,nT_,cF_,qy (by omega) (by omega),rvalid18,oB_]
 cases NumPlain.validB (a+b)<;>rfl
theorem rmod18 {a:Int} {n:Nat} (ha:NumPlain.validB a=true) (h0:1<=n) (hn:n<=100000):gQ43 a (n:Int)=some (a % n,0):=by
 have h1:=(q2w a).1 ha
 have hvn:NumPlain.validB (n:Int)=true:=(q2w _).2 (by omega)
 have e1:=Int.emod_nonneg a (show (n:Int)≠0 by omega)
 have e2:=Int.emod_lt_of_pos a (show (0:Int)<n by omega)
 have e3:=Int.mul_ediv_add_emod a n
 have q1:-9007199254740992<=a / (n:Int)/\a / (n:Int)<=9007199254740992:=by
  constructor
  .exact Int.le_ediv_of_mul_le (by omega) (by
    have:(-9007199254740992:Int)*n<=-9007199254740992*1:=by omega
    omega)
  .have:=Int.ediv_le_ediv (show (0:Int)<n by omega) h1.2
   have h2:(9007199254740992:Int) / (n:Int)<=9007199254740992:=Int.ediv_le_self _ (by omega)
   omega
 -- the quotient,rounded down
 have hdiv:gQ41 a (n:Int)=some (a / (n:Int),0):=by
  unfold gQ41
  rw[rvalid18,oB_,ha,nT_,cF_,rvalid18,oB_,hvn,nT_,cF_,dF_ (show ¬(n:Int)=0 by omega),cF_]
  unfold quo
  rw[if_neg (by omega),oB_]
  by_cases hneg:0<=a\/(n:Int) ∣ a
  .have ht:a.tdiv n=a / (n:Int):=by rw[Int.tdiv_eq_ediv,if_pos hneg,Int.add_zero]
   rw[ht,qy (n:=a / (n:Int)) (by omega) (by omega)]
   by_cases he:a % (n:Int)=0
   .have:a / (n:Int)*n=a:=by rw[Int.mul_comm];omega
    rw[this,qy (n:=a) (by omega) (by omega),dT_ rfl];rfl
   .have hm:a / (n:Int)*n=a-a % (n:Int):=by rw[Int.mul_comm];omega
    rw[hm,qy (by omega) (by omega),dF_ (by omega),nF_,cT_]
    have h0a:0<=a:=by
     rcases hneg with h|h
     .exact h
     .exact absurd (Int.emod_eq_zero_of_dvd h) he
    rw[dF_ (show ¬a<0 by omega),dF_ (show ¬(n:Int)<0 by omega)];rfl
  .have hna:¬0<=a:=fun h=>hneg (.inl h)
   have ht:a.tdiv n=a / (n:Int)+1:=by
    rw[Int.tdiv_eq_ediv,if_neg hneg,Int.sign_eq_one_of_pos (by omega)]
   have he:a % (n:Int)≠0:=fun h=>hneg (.inr (Int.dvd_of_emod_eq_zero h))
   have hm:(a / (n:Int)+1)*n=a-a % (n:Int)+n:=by rw[Int.add_mul,Int.mul_comm];omega
   rw[ht,qy (n:=a / (n:Int)+1) (by omega) (by omega),hm,qy (by omega) (by omega),dF_ (by omega),nF_,cT_,dT_ (show a<0 by omega),dF_ (show ¬(n:Int)<0 by omega)]
   show some (IntKind.i64.wrap (a / (n:Int)+1 - 1),(0:Int))=_
   rw[Int.add_sub_cancel,qy (by omega) (by omega)]
 have hm2:(n:Int)*(a / (n:Int))=a-a % (n:Int):=by omega
 unfold gQ43
 rw[hdiv,oB_]
 show some (IntKind.i64.wrap (a-IntKind.i64.wrap ((n:Int)*(a / (n:Int)))),(0:Int))=_
 rw[hm2,qy (n:=a-a % (n:Int)) (by omega) (by omega),show a-(a-a % (n:Int))=a % n by omega,qy (by omega) (by omega)]
theorem qm7 {a b:Int} (ha:NumPlain.validB a=true) (hb:NumPlain.validB b=true):gQ64 a b=some (q3s a b):=by
 have h1:=(q2w a).1 ha
 have h2:=(q2w b).1 hb
 unfold gQ64 q3s
 rw[qy (by omega) (by omega)]
 by_cases h:b-a > 4096
 .rw[dT_ h,if_pos h];rfl
 rw[dF_ h,if_neg h,cF_]
 refine qlb a b h1 h2 (by omega) fun n acc hl hn=>?_
 unfold gQ65
 by_cases hlt:n<b
 .rw[if_pos hlt]
  simp only[dT_ hlt,cT_,gQ73,oB_,q1k acc _ (m:=80) (n:=5000) (by decide) hl (by decide),qy (show -9223372036854775808<=n+1 by omega) (show n+1<=9223372036854775807 by omega)]
 .rw[if_neg hlt]
  simp only[dF_ hlt,cF_]
theorem qxd (l:List Val) (hl:l.length<=100000) (n:Int):q7 (gQ76 l) (n,0)=some (vNum (l.foldl (fun n v=>if v.num > n then v.num else n) n),0):=by
 refine qt (body:=gQ76 l) l (fun i (a:Int)=>(a,(i:Int))) (fun a r=>(vNum (r.foldl (fun n v=>if v.num > n then v.num else n) a),(0:Int))) (fun _ _=>True) rfl trivial (fun a _=>?_) (fun i x r a hi hx _ _=>?_)
 .simp only[gQ76,dF_ (show ¬(l.length:Int)<l.length by omega),cF_];rfl
 .left
  exact ⟨if x.num > a then x.num else a,trivial,by simp only[gQ76,dT_ (show (i:Int)<l.length by omega),cT_,q9,hx,oB_,qg hi (show l.length<=9223372036854775807 by omega)],rfl⟩
theorem qxf (l:List Val) (hl:l.length<=100000) (n:Int):q7 (gQ77 l) (n,0)=some (vNum (l.foldl (fun n v=>if v.num<n then v.num else n) n),0):=by
 refine qt (body:=gQ77 l) l (fun i (a:Int)=>(a,(i:Int))) (fun a r=>(vNum (r.foldl (fun n v=>if v.num<n then v.num else n) a),(0:Int))) (fun _ _=>True) rfl trivial (fun a _=>?_) (fun i x r a hi hx _ _=>?_)
 .simp only[gQ77,dF_ (show ¬(l.length:Int)<l.length by omega),cF_];rfl
 .left
  exact ⟨if x.num<a then x.num else a,trivial,by simp only[gQ77,dT_ (show (i:Int)<l.length by omega),cT_,q9,hx,oB_,qg hi (show l.length<=9223372036854775807 by omega)],rfl⟩
theorem quj {v:Val} (c:Ck v) (h:v.kind=2):v=vNum v.num:=by
 obtain ⟨_,_,s2,_,s4,s5,_,s7⟩:=c.ok.shape
 exact q8m h rfl (s4 (by omega)) (s5 (by omega) (by omega)) (s7 (by omega))
theorem qiq:∀(r:List Val) (n:Int),(∀v∈r,v=vNum v.num)->extS 1 (vNum n) r=vNum (r.foldl (fun n v=>if v.num > n then v.num else n) n)
 | [],n,_=>rfl
 | v::r,n,h=>by
  rw[extS,List.foldl_cons]
  have e:(if 1*v.num > 1*(vNum n).num then v else vNum n)=vNum (if v.num > n then v.num else n):=by
   rw[Int.one_mul,Int.one_mul]
   show (if v.num > n then v else vNum n)=_
   split
   .exact h v mS_
   .rfl
  rw[e,qiq r _ fun x hx=>h x (mC_ _ hx)]
theorem qir:∀(r:List Val) (n:Int),(∀v∈r,v=vNum v.num)->extS (-1) (vNum n) r=vNum (r.foldl (fun n v=>if v.num<n then v.num else n) n)
 | [],n,_=>rfl
 | v::r,n,h=>by
  rw[extS,List.foldl_cons]
  have e:(if -1*v.num > -1*(vNum n).num then v else vNum n)=vNum (if v.num<n then v.num else n):=by
   show (if -1*v.num > -1*n then v else vNum n)=_
   by_cases c:v.num<n
   .rw[if_pos (by omega),if_pos c];exact h v mS_
   .rw[if_neg (by omega),if_neg c]
  rw[e,qir r _ fun x hx=>h x (mC_ _ hx)]
theorem qya (x:Val) (r0:List Val) (hl:x.items.length<=100000) (hv:∀v∈x.items,NumPlain.validB v.num=true):q7 (gQ78 (x::r0)) (0,0)=some (sumS 0 x.items):=by
 have i0:idx (x::r0) 0=some x:=rfl
 refine qt (body:=gQ78 (x::r0)) x.items (fun i (n:Int)=>(n,(i:Int))) (fun n r=>sumS n r) (fun n r=>NumPlain.validB n=true/\∀v∈r,NumPlain.validB v.num=true) rfl ⟨by decide,hv⟩ (fun n _=>?_) (fun i y q n hi hx _ hq=>?_)
 .simp only[gQ78,i0,oB_,dF_ (show ¬(x.items.length:Int)<x.items.length by omega),cF_,sumS];rfl
 .have hy:=hq.2 y mS_
  simp only[gQ78,i0,oB_,dT_ (show (i:Int)<x.items.length by omega),cT_,q9,hx,radd18 hq.1 hy,qg hi (show x.items.length<=9223372036854775807 by omega),sumS]
  by_cases h:NumPlain.validB (n+y.num)=true
  .left
   rw[if_pos h,if_pos h]
   exact ⟨n+y.num,⟨h,fun v hv=>hq.2 v (mC_ _ hv)⟩,rfl,rfl⟩
  .right
   rw[if_neg h,if_neg h];rfl
theorem q1j (s:ByteArray):s.data.toList.length=s.size:=by simp
theorem qfo {s:ByteArray} {i:Nat} {b:UInt8} (h:s.data.toList[i]?=some b):sidx s (i:Int)=some ((b.toNat:Nat):Int):=by
 have hi:i<s.size:=by
  have:=(List.getElem?_eq_some_iff.1 h).1
  simpa using this
 rw[qfp hi]
 congr 2
 have:s.data.toList[i]?=some s[i]:=by
  rw[gE_ (by simpa using hi)];rfl
 rw[this]at h
 rw[Option.some.inj h]
theorem rends (s t:ByteArray) (hs:s.size<=140737488351232):gQ6d s t=some (q7x s t):=by
 unfold gQ6d q7x
 by_cases h:t.size<=s.size
 .rw[dT_ (show (s.size:Int) >= t.size by omega),cT_,qy (by omega) (by omega)]
  have e:sslc s ((s.size:Int)-t.size) (s.size:Int)=some (s.extract (s.size-t.size) s.size):=by
   unfold sslc
   rw[if_pos (by omega)]
   congr 2
   omega
  rw[e,oB_,dT_ h,Bool.true_and]
 .rw[dF_ (show ¬(s.size:Int) >= t.size by omega),dF_ h];rfl
theorem rbegins (s t:ByteArray):gQ5m s t=some (begB s t):=by
 unfold gQ5m begB
 by_cases h:t.size<=s.size
 .rw[dT_ (show (s.size:Int) >= t.size by omega),cT_]
  have e:sslc s 0 (t.size:Int)=some (s.extract 0 t.size):=by
   unfold sslc
   rw[if_pos (by omega)];rfl
  rw[e,oB_,dT_ h,Bool.true_and]
 .rw[dF_ (show ¬(s.size:Int) >= t.size by omega),dF_ h];rfl
theorem rcased (s:ByteArray) (lo hi d:Int) (hs:s.size<=4096) (hr:(0<=lo/\lo<256)/\(0<=hi/\hi<256)/\(-256<d/\d<256)):gQ5y s lo hi d=some (q5g lo hi d s):=by
 unfold gQ5y
 have:=qt (body:=gQ5z s lo hi d) s.data.toList (fun i (a:List Int)=>((i:Int),a)) (fun a r=>(⟨((a.map fun x=>UInt8.ofNat x.toNat)++r.map fun b=>UInt8.ofNat (movB lo hi d b.toNat).toNat).toArray⟩:ByteArray)) (fun a r=>(∀x∈a,0<=x/\x<256)/\a.length+r.length<=4096) (s0:=(0,[])) (a:=[]) rfl ⟨fun x h=>absurd h mN_,by simpa using hs⟩ (fun a hq=>?_) (fun i b r a hi2 hx _ hq=>?_)
 .rw[this];rfl
 .rw[q1j]
  have e:bstr a=some ⟨(a.map fun x=>UInt8.ofNat x.toNat).toArray⟩:=by unfold bstr;rw[if_pos hq.1]
  simp only[gQ5z,dF_ (show ¬(s.size:Int)<(s.size:Int) by omega),cF_,e,oB_,List.map_nil,List.append_nil]
 .left
  rw[q1j]at hi2
  obtain ⟨q1,q2⟩:=hq
  rw[lC_]at q2
  have hb:=b.toNat_lt
  have mb:=qkx lo hi d b.toNat (by omega) (by omega)
  have ha:∀x:Int,app 1 a [x]=some (a++[x]):=fun x=>q1k a x (m:=1) (n:=5000) (by decide) (by omega) (by decide)
  have hm:movB lo hi d b.toNat=if (b.toNat:Int) >= lo then (if (b.toNat:Int)<=hi then IntKind.u8.wrap (IntKind.i64.wrap (IntKind.i64.wrap (b.toNat:Int)+d)) else (b.toNat:Int)) else (b.toNat:Int):=by
   unfold movB
   by_cases h1:lo<=(b.toNat:Int)
   .by_cases h2:(b.toNat:Int)<=hi
    .rw[if_pos ⟨h1,h2⟩,if_pos h1,if_pos h2,qy (n:=(b.toNat:Int)) (by omega) (by omega),qy (by omega) (by omega)]
     unfold IntKind.wrap
     simp[IntKind.bits,IntKind.signed]
    .rw[if_neg (fun h=>h2 h.2),if_pos h1,if_neg h2]
   .rw[if_neg (fun h=>h1 h.1),if_neg h1]
  refine ⟨a++[movB lo hi d b.toNat],⟨fun x hx2=>?_,by rw[lA_,l1_];omega⟩,?_,by simp⟩
  .rcases mA_.1 hx2 with hx2|hx2
   .exact q1 x hx2
   .rw[m1_.1 hx2];exact mb
  .simp only[gQ5z,dT_ (show (i:Int)<(s.size:Int) by omega),cT_,qfo hx,oB_,ha,qg hi2 (show s.size<=9223372036854775807 by omega),hm]
   by_cases h1:(b.toNat:Int) >= lo
   .rw[dT_ h1,if_pos h1]
    by_cases h2:(b.toNat:Int)<=hi
    .rw[dT_ h2,if_pos h2];rfl
    .rw[dF_ h2,if_neg h2];rfl
   .rw[dF_ h1,if_neg h1];rfl
open Go.RowKit
theorem q5h {a b:ByteArray} (h:a.data.toList=b.data.toList):a=b:=by
 obtain ⟨⟨x⟩⟩:=a
 obtain ⟨⟨y⟩⟩:=b
 simp at h
 subst h;rfl
theorem q5o (s:ByteArray) (a b:Nat):(s.extract a b).data.toList=(s.data.toList.drop a).take (b-a):=by
 have:=Lib.extract_toList s a b
 rwa [ByteArray.toList_eq]at this
theorem q9x {s:ByteArray} {a b:Nat} (h:a<=b) (hb:b<=s.size):sslc s (a:Int) (b:Int)=some (s.extract a b):=by
 unfold sslc
 rw[if_pos (by omega)];rfl
abbrev blanks:List UInt8:=[32,9,10,13]
theorem rblank (b:UInt8):gQ5o (b.toNat:Int)=some (blanks.contains b):=by
 unfold gQ5o
 have h:∀k:UInt8,decide ((b.toNat:Int)=(k.toNat:Int))=(b==k):=fun k=>by
  by_cases e:b=k
  .subst e;simp
  .have:b.toNat≠k.toNat:=fun h=>e (UInt8.toNat_inj.1 h)
   rw[dF_ (by omega),beq_false_of_ne e]
 have h1:=h 32
 have h2:=h 9
 have h3:=h 10
 have h4:=h 13
 simp only[show ((32:UInt8).toNat:Int)=32 from rfl,show ((9:UInt8).toNat:Int)=9 from rfl,show ((10:UInt8).toNat:Int)=10 from rfl,show ((13:UInt8).toNat:Int)=13 from rfl]at h1 h2 h3 h4
 rw[h1,h2,h3,h4]
 show _=some ([32,9,10,13].contains b)
 simp only[List.contains_cons,List.contains_nil]
 cases (b==(32:UInt8))<;>cases (b==(9:UInt8))<;>cases (b==(10:UInt8))<;>cases (b==(13:UInt8))<;>rfl
theorem qyb (s:ByteArray) (i:Nat) (b0:UInt8) (hi:s.data.toList[i]?=some b0) (hb0:blanks.contains b0=false) (hsz:s.size<=4096) :
  ∃k,i<k/\k<=s.size/\q7 (gQ7y s (i:Int)) (s.size:Int)=some (.inr (s.extract i k))/\(∀j b,k<=j->s.data.toList[j]?=some b->blanks.contains b=true)/\(∀b,s.data.toList[k - 1]?=some b->blanks.contains b=false):=by
 have hil:i<s.size:=by have:=(List.getElem?_eq_some_iff.1 hi).1;rwa [q1j]at this
 obtain ⟨q,q1,q2⟩:=q1w (body:=gQ7y s (i:Int)) (fun t=>∃k:Nat,t=(k:Int)/\i<k/\k<=s.size/\∀j b,k<=j->s.data.toList[j]?=some b->blanks.contains b=true) (fun t=>t.toNat) (fun q=>∃k,i<k/\k<=s.size/\q=.inr (s.extract i k)/\(∀j b,k<=j->s.data.toList[j]?=some b->blanks.contains b=true)/\(∀b,s.data.toList[k - 1]?=some b->blanks.contains b=false)) (by
  rintro t ⟨k,rfl,h1,h2,h3⟩
  have hk:k - 1<s.data.toList.length:=by rw[q1j];omega
  have hx:=gE_ hk
  have hs:sidx s (IntKind.i64.wrap ((k:Int) - 1))=some (((s.data.toList[k - 1]).toNat:Nat):Int):=by
   rw[qy (by omega) (by omega),show (k:Int) - 1=((k - 1:Nat):Int) by omega];exact qfo hx
  simp only[gQ7y,dT_ (show (k:Int) > (i:Int) by omega),cT_,hs,oB_,rblank]
  cases hb:blanks.contains s.data.toList[k - 1] with
  | true =>
   left
   refine ⟨_,rfl,⟨k - 1,by rw[qy (by omega) (by omega)];omega,?_,by omega,fun j b hj hjb=>?_⟩,by rw[qy (by omega) (by omega)];omega⟩
   .rcases Nat.lt_or_ge i (k - 1) with h|h
    .exact h
    .have:k - 1=i:=by omega
     have hx2:s.data.toList[k - 1]?=some b0:=by rw[this];exact hi
     rw[hx]at hx2
     rw[Option.some.inj hx2,hb0]at hb;cases hb
   .rcases Nat.eq_or_lt_of_le hj with h|h
    .rw[←h,hx]at hjb
     rw[←Option.some.inj hjb];exact hb
    .exact h3 j b (by omega) hjb
  | false =>
   right
   rw[cF_,q9x (show i<=k by omega) h2]
   exact ⟨_,rfl,k,h1,h2,rfl,h3,fun b hb2=>by rw[hx]at hb2;rw[←Option.some.inj hb2];exact hb⟩) (s.size:Int) ⟨s.size,rfl,hil,Nat.le_refl _,fun j b hj hjb=>by
    have:=(List.getElem?_eq_some_iff.1 hjb).1
    rw[q1j]at this;omega⟩
 obtain ⟨k,k1,k2,k3,k4,k5⟩:=q2
 exact ⟨k,k1,k2,by rw[q1,k3],k4,k5⟩
theorem qzn {l:List UInt8} {i k:Nat} (h1:i<k) (h2:k<=l.length) (h3:∀j b,j<i->l[j]?=some b->blanks.contains b=true) (h4:∀b,l[i]?=some b->blanks.contains b=false) (h5:∀j b,k<=j->l[j]?=some b->blanks.contains b=true) (h6:∀b,l[k - 1]?=some b->blanks.contains b=false) :
  Lib.trimS l blanks=(l.drop i).take (k-i):=by
 unfold Lib.trimS
 rw[Lib.trimRightS_take l blanks k h2 h5 fun b _ hb=>h6 b hb]
 rw[Lib.trimLeftS_drop (l.take k) blanks i (by rw[List.length_take];omega) (fun j b hj hb=>h3 j b hj (by rw[List.getElem?_take,if_pos (by omega)]at hb;exact hb)) (fun b hb=>h4 b (by rw[List.getElem?_take,if_pos (by omega)]at hb;exact hb))]
 rw[List.drop_take]
theorem qyc (s:ByteArray) (hsz:s.size<=4096):gQ7w s=some (q6m s):=by
 unfold gQ7w
 obtain ⟨q,q1,q2⟩:=q1w (body:=gQ7x s) (fun t=>∃i:Nat,t=(i:Int)/\i<=s.size/\∀j b,j<i->s.data.toList[j]?=some b->blanks.contains b=true) (fun t=>s.size-t.toNat) (fun q=>q=q6m s) (by
  rintro t ⟨i,rfl,hi,hp⟩
  rcases Nat.eq_or_lt_of_le hi with h0|h0
  .right
   have e3:q7 (gQ7z s (i:Int)) (s.size:Int)=some (.inr (s.extract i s.size)):=by
    refine q2c ?_
    simp only[gQ7z,dF_ (show ¬(s.size:Int) > (i:Int) by omega),cF_,q9x (show i<=s.size by omega) (Nat.le_refl _),oB_]
   refine ⟨_,by simp only[gQ7x,dF_ (show ¬(i:Int)<(s.size:Int) by omega),cF_];exact e3,?_⟩
   refine q5h ?_
   rw[q5o]
   show _=Lib.trimS s.data.toList blanks
   unfold Lib.trimS
   rw[Lib.trimRightS_take s.data.toList blanks 0 (Nat.zero_le _) (fun j b _ hb=>hp j b (by have:=(List.getElem?_eq_some_iff.1 hb).1;rw[q1j]at this;omega) hb) (fun b h=>absurd h (by decide))]
   rw[List.drop_eq_nil_of_le (by rw[q1j];omega),List.take_nil,List.take_zero];rfl
  .have hl:i<s.data.toList.length:=by rw[q1j];exact h0
   have hx:=gE_ hl
   simp only[gQ7x,dT_ (show (i:Int)<(s.size:Int) by omega),cT_,qfo hx,oB_,rblank,qg h0 (show s.size<=9223372036854775807 by omega)]
   cases hb:blanks.contains s.data.toList[i] with
   | true =>
    left
    refine ⟨_,rfl,⟨i+1,rfl,h0,fun j b hj hjb=>?_⟩,by simp only[Int.toNat_natCast];omega⟩
    rcases Nat.eq_or_lt_of_le (Nat.le_of_lt_succ hj) with h|h
    .rw[h,hx]at hjb
     rw[←Option.some.inj hjb];exact hb
    .exact hp j b h hjb
   | false =>
    right
    obtain ⟨k,k1,k2,k3,k4,k5⟩:=qyb s i _ hx hb hsz
    refine ⟨_,k3,?_⟩
    refine q5h ?_
    rw[q5o]
    exact (qzn k1 (by rw[q1j];exact k2) hp (fun b hb2=>by rw[hx]at hb2;rw[←Option.some.inj hb2];exact hb) k4 k5).symm) 0 ⟨0,rfl,Nat.zero_le _,fun j b hj=>absurd hj (Nat.not_lt_zero _)⟩
 rw[q1,q2]
theorem qpp (s t:ByteArray) (i:Nat) (hi:i<=s.size):begB (s.extract i s.size) t=Lib.occAt s.data.toList t.data.toList i:=by
 have hd:(s.extract i s.size).data.toList=s.data.toList.drop i:=by
  rw[q5o]
  exact List.take_of_length_le (by rw[List.length_drop,q1j];exact Nat.le_refl _)
 have hz:(s.extract i s.size).size=s.size-i:=by rw[←q1j,hd,List.length_drop,q1j]
 unfold begB Lib.occAt
 rw[hz]
 by_cases h:t.size<=s.size-i
 .rw[dT_ h,Bool.true_and]
  have e:((s.extract i s.size).extract 0 t.size).data.toList=(s.data.toList.drop i).take t.data.toList.length:=by
   rw[q5o,hd,List.drop_zero,Nat.sub_zero,q1j]
  rw[Bool.eq_iff_iff,decide_eq_true_eq,List.isPrefixOf_iff_prefix,List.prefix_iff_eq_take,←e]
  exact ⟨fun h=>by rw[h],fun h=>(q5h h).symm⟩
 .rw[dF_ h,Bool.false_and]
  symm
  cases e:t.data.toList.isPrefixOf (s.data.toList.drop i) with
  | false=>rfl
  | true =>
   have:=(List.isPrefixOf_iff_prefix.1 e).length_le
   rw[List.length_drop,q1j,q1j]at this
   exact absurd this h
theorem qvv {s t:ByteArray} {i:Nat} (ht:1<=t.size) (h:Lib.indexB s t=(i:Nat)):q2l s t=s.extract 0 i::q2l (s.extract (i+t.size) s.size) t:=by
 unfold q2l
 rw[Lib.countB_hit s t i ht h,Nat.add_comm,Lib.splitB_hit t 0 _ s i h,Nat.add_zero]
theorem qvw {s t:ByteArray} (h:Lib.indexB s t=-1):q2l s t=[s]:=Lib.splitB_miss t 0 _ s h
theorem qf7 (l sub:List UInt8) (a j:Nat):Lib.occAt (l.drop a) sub j=Lib.occAt l sub (a+j):=by
 unfold Lib.occAt
 rw[List.drop_drop]
theorem qmp (s t:ByteArray) (hs:s.size<=4096) (ht:1<=t.size):gQ7c s t=some (q2l s t):=by
 unfold gQ7c
 have htl:t.data.toList≠[]:=fun e=>by
  have:=q1j t
  rw[e]at this;simp at this;omega
 obtain ⟨q,q1,q2⟩:=q1w (body:=gQ7d s t) (fun u=>∃(f i:Nat) (out:List ByteArray),u=((f:Int),(i:Int),out)/\f<=i/\i<=s.size/\out.length<=i/\out++q2l (s.extract f s.size) t=q2l s t/\∀j,f<=j->j<i->Lib.occAt s.data.toList t.data.toList j=false) (fun u=>s.size-u.2.1.toNat) (fun q=>q=q2l s t) (by
  rintro u ⟨f,i,out,rfl,h1,h2,h3,h4,h5⟩
  have hd:∀a,a<=s.size->(s.extract a s.size).data.toList=s.data.toList.drop a:=fun a ha=>by
   rw[q5o]
   exact List.take_of_length_le (by rw[List.length_drop,q1j];exact Nat.le_refl _)
  have hsz:∀a,a<=s.size->(s.extract a s.size).size=s.size-a:=fun a ha=>by rw[←q1j,hd a ha,List.length_drop,q1j]
  rcases Nat.eq_or_lt_of_le h2 with h0|h0
  .right
   have hi:Lib.indexB (s.extract f s.size) t=-1:=by
    show Lib.index (s.extract f s.size).data.toList t.data.toList=-1
    rw[hd f (by omega)]
    refine Lib.index_none fun j hj=>?_
    rw[qf7]
    rw[List.length_drop,q1j]at hj
    rcases Nat.lt_or_ge (f+j) i with h|h
    .exact h5 _ (by omega) h
    .cases e:Lib.occAt s.data.toList t.data.toList (f+j) with
     | false=>rfl
     | true =>
      rcases Lib.occAt_room e with h|h
      .rw[q1j,q1j]at h;omega
      .exact absurd h htl
   rw[qvw hi]at h4
   refine ⟨out++[s.extract f s.size],?_,h4⟩
   simp only[gQ7d,dF_ (show ¬(i:Int)<(s.size:Int) by omega),cF_,q9x (show f<=s.size by omega) (Nat.le_refl _),oB_,q1k out _ (m:=16) (n:=5000) (by decide) (by omega) (by decide)]
  .left
   simp only[gQ7d,dT_ (show (i:Int)<(s.size:Int) by omega),cT_,q9x (show i<=s.size by omega) (Nat.le_refl _),oB_,rbegins,qpp s t i h2,q9x h1 h2,q1k out _ (m:=16) (n:=5000) (by decide) (by omega) (by decide)]
   cases ho:Lib.occAt s.data.toList t.data.toList i with
   | true =>
    have hroom:i+t.size<=s.size:=by
     rcases Lib.occAt_room ho with h|h
     .rw[q1j,q1j]at h;exact h
     .exact absurd h htl
    have hi:Lib.indexB (s.extract f s.size) t=((i-f:Nat):Int):=by
     show Lib.index (s.extract f s.size).data.toList t.data.toList=_
     rw[hd f (by omega)]
     refine Lib.index_first (by rw[List.length_drop,q1j];omega) ?_ fun j hj=>?_
     .rw[qf7,show f+(i-f)=i by omega];exact ho
     .rw[qf7];exact h5 _ (by omega) (by omega)
    have e1:(s.extract f s.size).extract 0 (i-f)=s.extract f i:=by
     refine q5h ?_
     rw[q5o,hd f (by omega),q5o,List.drop_zero,Nat.sub_zero]
    have e2:(s.extract f s.size).extract (i-f+t.size) (s.extract f s.size).size=s.extract (i+t.size) s.size:=by
     refine q5h ?_
     rw[q5o,hd f (by omega),hsz f (by omega),hd _ hroom,List.drop_drop,show f+(i-f+t.size)=i+t.size by omega]
     exact List.take_of_length_le (by rw[List.length_drop,q1j];omega)
    rw[qvv ht hi,e1,e2]at h4
    have hw:IntKind.i64.wrap ((i:Int)+(t.size:Int))=((i+t.size:Nat):Int):=by rw[qy (by omega) (by omega)];omega
    rw[cT_,hw]
    refine ⟨_,rfl,⟨i+t.size,i+t.size,out++[s.extract f i],rfl,Nat.le_refl _,hroom,by rw[lA_,l1_];omega,by rw[List.append_assoc];exact h4,fun j hj hj2=>by omega⟩,by simp only[Int.toNat_natCast];omega⟩
   | false =>
    rw[cF_,qg h0 (show s.size<=9223372036854775807 by omega)]
    refine ⟨_,rfl,⟨f,i+1,out,rfl,by omega,h0,by omega,h4,fun j hj hj2=>?_⟩,by simp only[Int.toNat_natCast];omega⟩
    rcases Nat.eq_or_lt_of_le (Nat.le_of_lt_succ hj2) with h|h
    .rw[h];exact ho
    .exact h5 j hj h) (0,0,[]) ⟨0,0,[],rfl,Nat.le_refl _,Nat.zero_le _,Nat.le_refl _,by
     rw[List.nil_append]
     congr 1
     refine q5h ?_
     rw[q5o,List.drop_zero]
     exact List.take_of_length_le (by rw[q1j];omega),fun j _ hj=>absurd hj (Nat.not_lt_zero _)⟩
 rw[q1,q2]
open Go.RowKit
theorem qnd (s:List UInt8) (a b:List (List UInt8)):Lib.joinTail s (a++b)=Lib.joinTail s a++Lib.joinTail s b:=by
 unfold Lib.joinTail
 rw[List.map_append,List.flatten_append]
theorem qsu (l:List (List UInt8)) (x s:List UInt8):Lib.join (l++[x]) s=if l=[] then x else Lib.join l s++s++x:=by
 cases l with
 | nil=>rw[if_pos rfl,List.nil_append,Lib.join_one]
 | cons y r =>
  rw[if_neg (by simp),List.cons_append,Lib.join_cons,Lib.join_cons,qnd]
  simp[Lib.joinTail]
theorem qst (a b:List (List UInt8)) (s:List UInt8):(Lib.join a s).length<=(Lib.join (a++b) s).length:=by
 cases a with
 | nil=>rw[Lib.join_nil];exact Nat.zero_le _
 | cons y r =>
  rw[List.cons_append,Lib.join_cons,Lib.join_cons,qnd,lA_,lA_,lA_]
  omega
theorem qdd {a b:ByteArray} (h:a.size+b.size<=1000000):cat a b=some (a++b):=by unfold cat;rw[if_pos (by omega)]
theorem qdl (a b:ByteArray):(a++b).data.toList=a.data.toList++b.data.toList:=by simp
theorem q6y (l:List ByteArray) (s:ByteArray):(qv l s).data.toList=Lib.join (l.map (·.data.toList)) s.data.toList:=by unfold qv;simp
theorem rjoined (l:List ByteArray) (s:ByteArray) (hl:l.length<=5000) (hx:∀x∈l,x.size<=4096) (hs:s.size<=4096):∃r,gQ6n l s=some r/\((qv l s).size<=4096->r=qv l s)/\(4096<(qv l s).size->4096<r.size)/\r.size<=(qv l s).size:=by
 unfold gQ6n
 have hmono:∀i,(qv (l.take i) s).size<=(qv l s).size:=fun i=>by
  rw[←q1j,←q1j,q6y,q6y]
  have:=qst ((l.take i).map (·.data.toList)) ((l.drop i).map (·.data.toList)) s.data.toList
  rwa [←List.map_append,List.take_append_drop]at this
 obtain ⟨q,q1,q2⟩:=q1w (body:=gQ6o l s) (fun u=>∃i:Nat,u=(qv (l.take i) s,(i:Int))/\i<=l.length) (fun u=>l.length-u.2.toNat) (fun r=>((qv l s).size<=4096->r=qv l s)/\(4096<(qv l s).size->4096<r.size)/\r.size<=(qv l s).size) (by
  rintro u ⟨i,rfl,hi⟩
  rcases Nat.eq_or_lt_of_le hi with h0|h0
  .right
   refine ⟨qv (l.take i) s,by simp only[gQ6o,dF_ (show ¬(i:Int)<(l.length:Int) by omega),cF_],?_⟩
   rw[List.take_of_length_le (by omega)]
   exact ⟨fun _=>rfl,id,Nat.le_refl _⟩
  .by_cases h4:(qv (l.take i) s).size<=4096
   .left
    have hxi:=gE_ h0
    have hz:=hx _ (List.getElem_mem h0)
    have ht:l.take (i+1)=l.take i++[l[i]]:=by rw[List.take_add_one,hxi];rfl
    refine ⟨(qv (l.take (i+1)) s,((i+1:Nat):Int)),?_,⟨i+1,rfl,h0⟩,by simp only[Int.toNat_natCast];omega⟩
    have hw:=qg h0 (show l.length<=9223372036854775807 by omega)
    cases i with
    | zero =>
     have e:qv (l.take 0) s++l[0]=qv (l.take (0+1)) s:=by
      refine q5h ?_
      rw[qdl,q6y,q6y,ht,List.map_append,List.take_zero,List.map_nil,List.nil_append,Lib.join_nil,List.nil_append]
      exact (Lib.join_one _ _).symm
     simp only[gQ6o,dT_ (show ((0:Nat):Int)<(l.length:Int) by omega),cT_,dT_ (show ((qv (l.take 0) s).size:Int)<=4096 by omega),dF_ (show ¬((0:Nat):Int) > 0 by omega),cF_,q9,hxi,oB_,qdd (show (qv (l.take 0) s).size+l[0].size<=1000000 by omega),e,hw]
    | succ j =>
     have hne:(l.take (j+1)).map (·.data.toList)≠[]:=fun e=>by
      have:=congrArg List.length e
      rw[lM_,List.length_take,List.length_nil]at this
      omega
     have e:qv (l.take (j+1)) s++s++l[j+1]=qv (l.take (j+1+1)) s:=by
      refine q5h ?_
      rw[qdl,qdl,q6y,q6y,ht,List.map_append]
      exact ((qsu _ _ _).trans (if_neg hne)).symm
     have z1:(qv (l.take (j+1)) s++s).size=(qv (l.take (j+1)) s).size+s.size:=by simp
     simp only[gQ6o,dT_ (show ((j+1:Nat):Int)<(l.length:Int) by omega),cT_,dT_ (show ((qv (l.take (j+1)) s).size:Int)<=4096 by omega),dT_ (show ((j+1:Nat):Int) > 0 by omega),q9,hxi,oB_,qdd (show (qv (l.take (j+1)) s).size+s.size<=1000000 by omega),qdd (show (qv (l.take (j+1)) s++s).size+l[j+1].size<=1000000 by omega),e,hw]
   .right
    refine ⟨qv (l.take i) s,by simp only[gQ6o,dT_ (show (i:Int)<(l.length:Int) by omega),cT_,dF_ (show ¬((qv (l.take i) s).size:Int)<=4096 by omega),cF_],fun h=>?_,fun _=>by omega,hmono i⟩
    have:=hmono i
    omega) (eS,0) ⟨0,rfl,Nat.zero_le _⟩
 exact ⟨q,q1,q2⟩
theorem qz4 (sep:List UInt8):∀(k:Nat) (s:List UInt8),Lib.splitK sep 0 k s≠[]
 | 0,s=>by rw[Lib.splitK];simp
 | k+1,s=>by rw[Lib.splitK];split<;>simp
theorem qjr (old new:List UInt8):∀(k:Nat) (s:List UInt8),Lib.join (Lib.splitK old 0 k s) new=Lib.replaceK old new k s
 | 0,s=>by rw[Lib.splitK,Lib.replaceK,Lib.join_one]
 | k+1,s=>by
  rw[Lib.splitK,Lib.replaceK]
  split
  .rw[Lib.join_one]
  .rw[←qjr old new k]
   have hne:=qz4 old k (s.drop ((Lib.index s old).toNat+old.length))
   cases h:Lib.splitK old 0 k (s.drop ((Lib.index s old).toNat+old.length)) with
   | nil=>exact absurd h hne
   | cons y r =>
    rw[Lib.join_cons,Lib.join_cons,Nat.add_zero]
    simp[Lib.joinTail]
theorem qmd (old:List UInt8):∀(k:Nat) (s:List UInt8),Lib.replaceK old old k s=s
 | 0,s=>by rw[Lib.replaceK]
 | k+1,s=>by
  rw[Lib.replaceK]
  rcases Lib.index_spec s old with ⟨h1,_⟩|⟨i,h1,h2,h3,_⟩
  .rw[h1];rfl
  .have hm:¬(Lib.index s old==-1)=true:=fun e=>by have:=beq_iff_eq.1 e;omega
   rw[if_neg hm,qmd old k,h1,Int.toNat_natCast]
   unfold Lib.occAt at h3
   obtain ⟨r,hr⟩:=List.isPrefixOf_iff_prefix.1 h3
   have e1:s.drop (i+old.length)=r:=by rw[←List.drop_drop,←hr,List.drop_left]
   rw[e1,List.append_assoc,hr,List.take_append_drop]
theorem qwv (s a b:ByteArray):qv (q2l s a) b=q6k s a b:=by
 refine q5h ?_
 rw[q6y]
 unfold q2l q6k
 rw[Lib.splitB_data,qjr]
 show _=Lib.replaceAll s.data.toList a.data.toList b.data.toList
 unfold Lib.replaceAll Lib.replace
 have hn:Lib.replaceNum s.data.toList a.data.toList (-1)=Lib.countB s a:=by
  unfold Lib.replaceNum
  rw[if_pos (.inl (by decide))]
 rw[hn]
 by_cases h:a.data.toList=b.data.toList
 .rw[if_pos (by simpa using h),h,qmd]
 .rw[if_neg (by simpa using h)]
open Go.RowKit
open Classical in
theorem rknown18 (x:Val):x.Fits->tQat x=some (qc x):=by
 induction x using wfV.induction with
 | h x ih =>
  intro hf
  obtain ⟨f1,f2,f3,f4,f5,f6,f7⟩:=hf.parts
  have hn:=q2b f4 (by decide)
  have e:tQat x=gQ4g (fun a0=>if relV a0 x then tQat a0 else none) x:=q30 x ()
  rw[e,q87]
  unfold gQ4g
  by_cases h6:x.kind=6
  .rw[dT_ h6,cT_];simp[h6]
  rw[dF_ h6,cF_]
  have:decide (x.kind≠6)=true:=by simp[h6]
  rw[this,Bool.true_and]
  refine qt x.items (fun i (_:Unit)=>(i:Int)) (fun _ r=>r.all qc) (fun _ r=>∀y∈r,y∈x.items) (a:=()) rfl (fun _ h=>h) (fun _ _=>?_) (fun i y r _ hi hx _ hq=>?_)
  .simp only[gQ4h,dF_ (show ¬(x.items.length:Int)<x.items.length by omega),cF_,List.all_nil]
  .have hm:=hq y mS_
   simp only[gQ4h,dT_ (show (i:Int)<x.items.length by omega),cT_,q9,hx,oB_,if_pos (show relV y x from hm),ih y hm (f7 y hm),List.all_cons,qg hi (show x.items.length<=9223372036854775807 by omega)]
   cases qc y with
   | false=>right;rfl
   | true=>left;exact ⟨(),fun z hz=>hq z (mC_ _ hz),rfl,rfl⟩
theorem ralike (a b:Val) (hf:a.Fits) (hg:b.Fits):gQ57 a b=some (qu a b):=by
 unfold gQ57
 obtain ⟨q,h1,h2⟩:=qmh a b hf
 rw[h1,oB_,rknown18 a hf,rknown18 b hg]
 cases q with
 | true =>
  obtain rfl:=h2.1 rfl
  rw[cT_,oB_]
  have:qu a a=qc a:=by rw[Bool.eq_iff_iff,q62];simp
  rw[this]
  cases qc a<;>rfl
 | false =>
  rw[cF_]
  cases h:qu a b with
  | false=>rfl
  | true=>have:=h2.2 (q62.1 h).1;cases this
open Classical in
theorem rdiff (a:Val):∀b:Val,a.Fits->tQb2 a b=some (difV a b):=by
 induction a using wfV.induction with
 | h a ih =>
  intro b hf
  obtain ⟨f1,f2,f3,f4,f5,f6,f7⟩:=hf.parts
  have hn:=q2b f4 (by decide)
  have hk:=q2b f5 (by decide)
  have e:tQb2 a b=gQ5d (fun a0 a1=>if relV a0 a then tQb2 a0 a1 else none) a b:=q30 a b
  rw[e,q7u]
  unfold gQ5d
  rw[q22,oB_,q22,oB_]
  by_cases h1:a.kind=6
  .rw[dT_ h1,if_pos (.inl h1)];rfl
  rw[dF_ h1,cF_]
  by_cases h2:b.kind=6
  .rw[dT_ h2,if_pos (.inr h2)];rfl
  rw[dF_ h2,cF_,if_neg (by omega)]
  by_cases h3:a.kind=b.kind
  case neg=>rw[dF_ h3,nF_,cT_,if_pos (.inl h3)]
  rw[dT_ h3,nT_,cF_]
  by_cases h4:a.num=b.num
  case neg=>rw[dF_ h4,nF_,cT_,if_pos (.inr (.inl h4))]
  rw[dT_ h4,nT_,cF_]
  by_cases h5:a.str=b.str
  case neg=>rw[dF_ h5,nF_,cT_,if_pos (.inr (.inr (.inl h5)))]
  rw[dT_ h5,nT_,cF_]
  by_cases h7:a.items.length=b.items.length
  case neg=>rw[dF_ (show ¬(a.items.length:Int)=b.items.length by omega),nF_,cT_,if_pos (.inr (.inr (.inr (.inl h7))))]
  rw[dT_ (show (a.items.length:Int)=b.items.length by omega),nT_,cF_]
  by_cases hkl:a.keys.length=b.keys.length
  case neg =>
   rw[dF_ (show ¬(a.keys.length:Int)=b.keys.length by omega),nF_,cT_,if_pos (.inr (.inr (.inr (.inr (fun h=>hkl (by rw[h]))))))]
  rw[dT_ (show (a.keys.length:Int)=b.keys.length by omega),nT_,cF_]
  -- the items
  have items:q7 (gQ5f (fun a0 a1=>if relV a0 a then tQb2 a0 a1 else none) a b) 0=some (.inr (difL a.items b.items)):=by
   refine qt a.items (fun i (_:Unit)=>(i:Int)) (fun _ r=>.inr (difL r (b.items.drop (a.items.length-r.length)))) (a:=()) (fun _ r=>r.length<=a.items.length/\∀y∈r,y∈a.items) rfl ⟨Nat.le_refl _,fun _ h=>h⟩ (fun _ _=>?_) (fun i x r _ hi hx hd hq=>?_) |>.trans (by rw[Nat.sub_self,List.drop_zero])
   .simp only[gQ5f,dF_ (show ¬(a.items.length:Int)<a.items.length by omega),cF_,qdn]
   .have hib:i<b.items.length:=by omega
    have hr:a.items.length-(x::r).length=i:=by
     have:=congrArg List.length hd
     rw[List.length_drop]at this;omega
    have hr':a.items.length-r.length=i+1:=by rw[lC_]at hr;have:=hq.1;rw[lC_]at this;omega
    have hm:x∈a.items:=List.mem_of_getElem? hx
    rw[hr,hr',List.drop_eq_getElem_cons hib,qdm]
    simp only[gQ5f,dT_ (show (i:Int)<a.items.length by omega),cT_,q9,hx,gE_ hib,oB_,if_pos (show relV x a from hm),ih x hm _ (f7 x hm),qg hi (show a.items.length<=9223372036854775807 by omega)]
    cases difV x b.items[i] with
    | true=>right;rfl
    | false =>
     left
     exact ⟨(),⟨by have:=hq.1;rw[lC_]at this;omega,fun y hy=>hq.2 y (mC_ _ hy)⟩,rfl,by rw[Bool.false_or]⟩
  -- the keys
  have hall:(if a.kind≠b.kind\/a.num≠b.num\/a.str≠b.str\/a.items.length≠b.items.length\/a.keys≠b.keys then true else difL a.items b.items)=(if a.keys=b.keys then difL a.items b.items else true):=by
   by_cases h8:a.keys=b.keys
   .rw[if_neg (by simp[h3,h4,h5,h7,h8]),if_pos h8]
   .rw[if_pos (.inr (.inr (.inr (.inr h8)))),if_neg h8]
  rw[hall]
  refine qt a.keys (fun i (_:Unit)=>(i:Int)) (fun _ r=>if r=b.keys.drop (a.keys.length-r.length) then difL a.items b.items else true) (a:=()) (fun _ r=>r.length<=a.keys.length) rfl (Nat.le_refl _) (fun _ _=>?_) (fun i x r _ hi hx hd hq=>?_) |>.trans (by rw[Nat.sub_self,List.drop_zero])
  .simp only[gQ5e,dF_ (show ¬(a.keys.length:Int)<a.keys.length by omega),cF_]
   rw[items,if_pos (by rw[List.length_nil,Nat.sub_zero,hkl,List.drop_length])]
  .have hib:i<b.keys.length:=by omega
   have hr:a.keys.length-(x::r).length=i:=by
    have:=congrArg List.length hd
    rw[List.length_drop]at this;omega
   have hr':a.keys.length-r.length=i+1:=by rw[lC_]at hr hq;omega
   rw[hr,hr',List.drop_eq_getElem_cons hib]
   simp only[gQ5e,dT_ (show (i:Int)<a.keys.length by omega),cT_,q9,hx,gE_ hib,oB_,qg hi (show a.keys.length<=9223372036854775807 by omega)]
   by_cases hxx:x=b.keys[i]
   .left
    rw[dT_ hxx]
    refine ⟨(),by rw[lC_]at hq;omega,rfl,?_⟩
    rw[hxx]
    by_cases ht:r=b.keys.drop (i+1)
    .rw[if_pos (by rw[ht]),if_pos ht]
    .rw[if_neg (fun h=>ht (List.cons.inj h).2),if_neg ht]
   .right
    rw[dF_ hxx,if_neg (fun h=>hxx (List.cons.inj h).1)];rfl
theorem rtruth (b:Bool):gQ81 b=some (bV b):=by cases b<;>rfl
theorem rcontains18 (l:List Val) (v:Val) (hl:l.length<=100000) (hf:∀x∈l,x.Fits) (hv:v.Fits):gQ61 l v=some (q4g l v):=by
 unfold gQ61
 have:=qt (body:=gQ62 l v) l (fun i (a:Bool)=>(a,(i:Int))) (fun a r=>bif (r.any fun x=>qu x v) then bV true else bif (a&&r.all fun x=>difV x v) then bV false else vU) (fun _ r=>∀x∈r,x.Fits) (s0:=(true,0)) (a:=true) rfl hf (fun a _=>?_) (fun i x r a hi hx _ hq=>?_)
 .rw[this];unfold q4g;rw[Bool.true_and]
 .simp only[gQ62,dF_ (show ¬(l.length:Int)<l.length by omega),cF_,List.any_nil,List.all_nil,Bool.and_true]
  cases a<;>rfl
 .have hx':=hq x mS_
  simp only[gQ62,dT_ (show (i:Int)<l.length by omega),cT_,q9,hx,oB_,ralike x v hx' hv,rdiff x v hx',List.any_cons,List.all_cons,qg hi (show l.length<=9223372036854775807 by omega)]
  cases qu x v with
  | true=>right;rfl
  | false =>
   left
   refine ⟨a&&difV x v,fun y hy=>hq y (mC_ _ hy),?_,by rw[Bool.false_or,Bool.and_assoc]⟩
   cases a<;>rfl
theorem rfind18 (v:Val) (hv:v.Fits) (l:List Val) (hl:l.length<=100000) (hf:∀x∈l,x.Fits):gQ6f l v=some (q2q v 0 l):=by
 unfold gQ6f
 refine qt (body:=gQ6g l v) l (fun i (_:Unit)=>(i:Int)) (fun _ r=>q2q v (l.length-r.length) r) (fun _ r=>r.length<=l.length/\∀x∈r,x.Fits) (a:=()) rfl ⟨Nat.le_refl _,hf⟩ (fun _ _=>?_) (fun i x r _ hi hx hd hq=>?_) |>.trans (by rw[Nat.sub_self])
 .simp only[gQ6g,dF_ (show ¬(l.length:Int)<l.length by omega),cF_,q2q]
 .have hr:l.length-(x::r).length=i:=by
   have:=congrArg List.length hd
   rw[List.length_drop]at this;omega
  have hq1:=hq.1
  rw[lC_]at hq1
  have hr':l.length-r.length=i+1:=by rw[lC_]at hr;omega
  have hx':=hq.2 x mS_
  rw[hr,hr',qay]
  simp only[gQ6g,dT_ (show (i:Int)<l.length by omega),cT_,q9,hx,oB_,ralike x v hx' hv,rdiff x v hx',qg hi (show l.length<=9223372036854775807 by omega)]
  cases qu x v with
  | true=>right;rfl
  | false =>
   cases difV x v with
   | false=>right;rfl
   | true=>left;exact ⟨(),⟨by omega,fun y hy=>hq.2 y (mC_ _ hy)⟩,rfl,rfl⟩
theorem rdistinct18 (l:List Val) (hl:l.length<=100000) (hf:∀x∈l,x.Fits):gQ67 l=some (q2i [] [] l):=by
 unfold gQ67
 have:=qt (body:=gQ68 l) l (fun i (a:List Val)=>((i:Int),a)) (fun a r=>q2i (l.take (l.length-r.length)) a r) (fun a r=>a.length+r.length<=l.length/\∀x∈r,x.Fits) (s0:=(0,[])) (a:=[]) rfl ⟨by simp,hf⟩ (fun a _=>?_) (fun i x r a hi hx hd hq=>?_)
 .rw[this,Nat.sub_self,List.take_zero]
 .simp only[gQ68,dF_ (show ¬(l.length:Int)<l.length by omega),cF_,q2i]
 .have hr:l.length-(x::r).length=i:=by
   have:=congrArg List.length hd
   rw[List.length_drop]at this;omega
  have hq1:=hq.1
  rw[lC_]at hq1
  have hr':l.length-r.length=i+1:=by rw[lC_]at hr;omega
  have hx':=hq.2 x mS_
  have htk:l.take (i+1)=l.take i++[x]:=by
   rw[List.take_add_one,hx];rfl
  have htl:(l.take i).length=i:=by rw[List.length_take];omega
  rw[hr,hr',htk]
  simp only[gQ68,dT_ (show (i:Int)<l.length by omega),cT_]
  have hin:=qt (body:=gQ69 l ((i:Int),a)) (l.take i) (fun j (b:Bool)=>(b,(j:Int)))
   (fun b q=>bif (q.any fun y=>!qu x y&&!difV x y) then (.inr vU:(Int×List Val)⊕Val) else .inl (((i+1:Nat):Int),bif (b&&!q.any fun y=>qu x y) then a++[x] else a)) (fun _ q=>∀y∈q,y∈l) (s0:=(true,0)) (a:=true) rfl (fun y hy=>List.mem_of_mem_take hy) (fun b _=>?_) (fun j y q b hj hy _ hyq=>?_)
  .rw[show q7 (gQ69 l ((i:Int),a)) (true,0)=_ from hin,Bool.true_and]
   rw[qap]
   cases (l.take i).any fun y=>!qu x y&&!difV x y with
   | true=>right;rfl
   | false =>
    left
    refine ⟨bif ((l.take i).any fun y=>qu x y) then a else a++[x],⟨?_,fun y hy=>hq.2 y (mC_ _ hy)⟩,?_,rfl⟩
    .cases (l.take i).any fun y=>qu x y with
     | true=>rw[cT_];omega
     | false=>rw[cF_,lA_,l1_];omega
    .cases (l.take i).any fun y=>qu x y<;>rfl
  .rw[htl]
   simp only[gQ69,dF_ (show ¬(i:Int)<(i:Int) by omega),cF_,q9,hx,oB_,List.any_nil,nF_,Bool.and_true,qg hi (show l.length<=9223372036854775807 by omega)]
   cases b with
   | false=>rfl
   | true =>
    rw[cT_,q1k a x (m:=80) (n:=100001) (by decide) (by omega) (by decide)];rfl
  .rw[htl]at hj
   have hyl:l[j]?=some y:=by rw[←hy,List.getElem?_take,if_pos hj]
   have hyf:y.Fits:=hf y (hyq y mS_)
   simp only[gQ69,dT_ (show (j:Int)<(i:Int) by omega),cT_,q9,hyl,hx,oB_,ralike y x hyf hx',rdiff y x hyf,List.any_cons,qg (show j<l.length by omega) (show l.length<=9223372036854775807 by omega)]
   rw[qo6 y x,qqt y x]
   cases hal:qu x y with
   | true =>
    left
    refine ⟨false,fun z hz=>hyq z (mC_ _ hz),?_,by simp⟩
    rfl
   | false =>
    cases hdf:difV x y with
    | false=>right;rfl
    | true =>
     left
     exact ⟨b,fun z hz=>hyq z (mC_ _ hz),rfl,by simp⟩
open Classical in
theorem rflat18 (l:List Val):q1d l<=100000->tQb5 l=some (match q15 l with|some z=>(z,true)|none=>([],false)):=by
 induction l using wfVL.induction with
 | h l ih =>
  intro hn
  have hll:=q9m l
  have e:tQb5 l=gQ6k (fun a0=>if q6i a0 l then tQb5 a0 else none) l:=q30 l ()
  rw[e]
  unfold gQ6k
  refine qt l (fun i (a:List Val)=>((i:Int),a)) (fun a r=>match q15 r with|some z=>(a++z,true)|none=>([],false)) (fun a r=>a.length+q1d r<=q1d l/\∀x∈r,x∈l) (s0:=(0,[])) (a:=[]) rfl ⟨by simp,fun _ h=>h⟩ (fun a _=>?_) (fun i x r a hi hx _ hq=>?_) |>.trans (by cases q15 l<;>rfl)
  .simp only[gQ6l,dF_ (show ¬(l.length:Int)<l.length by omega),cF_,q6a,List.append_nil]
  .obtain ⟨q1,q2⟩:=hq
   have hm:=q2 x mS_
   rw[q5t]at q1
   have hnx:=q6f x
   simp only[gQ6l,dT_ (show (i:Int)<l.length by omega),cT_,q9,hx,oB_,q22,qg hi (show l.length<=9223372036854775807 by omega),q69]
   rw[q9b]
   by_cases h6:x.kind=6
   .right;rw[dT_ h6,if_pos h6];rfl
   rw[dF_ h6,cF_,if_neg h6]
   by_cases h4:x.kind=4
   .rw[dT_ h4,cT_,if_pos h4,if_pos (show q6i x.items l from ⟨x,hm,rfl⟩),ih x.items ⟨x,hm,rfl⟩ (by have:=qbw hm;omega)]
    cases hf:q15 x.items with
    | none=>right;rfl
    | some z =>
     have hz:=qaw _ _ hf
     left
     refine ⟨a++z,⟨by rw[lA_];omega,fun y hy=>q2 y (mC_ _ hy)⟩,?_,?_⟩
     .simp only[oB_,nT_,cF_]
      rw[q5f (by decide) (show (a.length+z.length)*80<=140737488355328 by omega),oB_]
     .simp only[oB_]
      cases q15 r with
      | none=>rfl
      | some b=>simp
   .rw[dF_ h4,cF_,if_neg h4]
    left
    refine ⟨a++[x],⟨by rw[lA_,l1_];omega,fun y hy=>q2 y (mC_ _ hy)⟩,?_,?_⟩
    .rw[q1k a x (m:=80) (n:=100001) (by decide) (by omega) (by decide),oB_]
    .simp only[oB_]
     cases q15 r with
     | none=>rfl
     | some b=>simp
theorem relement18 (l n:Val) (hk:l.kind=4\/l.kind=6) (hl:l.items.length<=100000) (hn:n.kind≠6->NumPlain.validB n.num=true):gQ6b l n=some (q36 l n):=by
 unfold gQ6b q36
 simp only[q22,oB_]
 rcases hk with hk|hk
 .rw[dT_ hk,cT_]
  by_cases h0:l.items.length=0
  .rw[dT_ (show (l.items.length:Int)=0 by omega),cT_,if_pos ⟨hk,h0⟩]
  rw[dF_ (show ¬(l.items.length:Int)=0 by omega),cF_,if_neg (fun h=>h0 h.2),dF_ (show ¬l.kind=6 by omega),cF_]
  by_cases h6:n.kind=6
  .rw[dT_ h6,cT_,if_pos (.inr h6)];rfl
  rw[dF_ h6,cF_,if_neg (by omega),rmod18 (hn h6) (by omega) hl,oB_]
  have e1:=Int.emod_nonneg n.num (show (l.items.length:Int)≠0 by omega)
  have e2:=Int.emod_lt_of_pos n.num (show (0:Int)<l.items.length by omega)
  have hlt:(n.num % (l.items.length:Int)).toNat<l.items.length:=by omega
  have:=q9 l.items (n.num % (l.items.length:Int)).toNat
  rw[show (((n.num % (l.items.length:Int)).toNat:Nat):Int)=n.num % (l.items.length:Int) by omega]at this
  show (idx l.items (n.num % (l.items.length:Int))).bind _=_
  rw[this,List.getD_eq_getElem?_getD,gE_ hlt];rfl
 .rw[dF_ (show ¬l.kind=4 by omega),cF_,dT_ hk,cT_,if_neg (by omega),if_pos (.inl hk)];rfl
open Go.RowKit
def leB (a b:ByteArray):Bool:=Op.bytesLess a.toList b.toList || decide (a=b)
def insU (x:Val):List Val->List Val
 | []=>[x]
 | y::r=>if leB y.str x.str=true then y::insU x r else x::y::r
theorem qjj (x:Val):∀(l:List Val) (i:Nat),(∀j y,j<i->l[j]?=some y->leB y.str x.str=true)->i<=l.length->insU x l=l.take i++insU x (l.drop i)
 | l,0,_,_=>by simp
 | [],i+1,_,h=>by simp at h
 | y::r,i+1,h,hl=>by
  rw[insU,if_pos (h 0 y (by omega) rfl),qjj x r i (fun j z hj hz=>h (j+1) z (by omega) (by simpa using hz)) (by simpa using hl)]
  simp
theorem qjk (x:Val):∀l:List Val,(insU x l).length=l.length+1
 | []=>rfl
 | y::r=>by
  rw[insU];split
  .rw[lC_,qjk x r,lC_]
  .simp
theorem slc_to {α:Type} (l:List α) (i:Nat) (hi:i<=l.length):slc l 0 (i:Int)=some (l.take i):=qn2 l i hi
theorem qyp {α:Type} (l:List α) (i:Nat) (hi:i<=l.length):slc l (i:Int) (l.length:Int)=some (l.drop i):=by
 unfold slc
 rw[if_pos (by omega)]
 congr 1
 rw[Int.toNat_natCast,Int.toNat_natCast]
 exact List.take_of_length_le (by rw[List.length_drop];exact Nat.le_refl _)
theorem qyz (l out:List Val) (i:Nat) (x:Val) (hx:l[i]?=some x) (hl:l.length<=10000) (ho:out.length<=10000):q7 (gQ7h l (out,(i:Int))) 0=some (.inl (insU x out,((i+1:Nat):Int))):=by
 have hil:=(List.getElem?_eq_some_iff.1 hx).1
 have hw:=qg hil (show l.length<=9223372036854775807 by omega)
 have fin:∀j:Nat,j<=out.length->insU x out=out.take j++x::out.drop j->((slc out 0 (j:Int)).bind fun x8=>(app 80 [] x8).bind fun l10=>(idx l (i:Int)).bind fun x11=>(app 80 l10 [x11]).bind fun l12=>(slc out (j:Int) (out.length:Int)).bind fun x13=>(app 80 l12 x13).bind fun l15=>(some (.inr (.inl (l15,(IntKind.i64.wrap ((i:Int)+1))))):Option (Int⊕((List Val×Int)⊕Val))))=some (.inr (.inl (insU x out,((i+1:Nat):Int)))):=by
  intro j hj e
  have t1:(out.take j).length=j:=by rw[List.length_take];omega
  have t2:(out.drop j).length=out.length-j:=List.length_drop
  rw[slc_to out j hj,oB_,q5f (xs:=[]) (ys:=out.take j) (by decide) (by rw[t1];simp;omega),oB_,q9,hx,oB_,List.nil_append,q5f (xs:=out.take j) (ys:=[x]) (by decide) (by rw[t1];simp;omega),oB_,qyp out j hj,oB_,q5f (xs:=out.take j++[x]) (ys:=out.drop j) (by decide) (by rw[lA_,t1,t2];simp;omega),oB_,hw,e,List.append_assoc,List.singleton_append]
 obtain ⟨q,q1,q2⟩:=q1w (body:=gQ7h l (out,(i:Int))) (fun s=>∃j:Nat,s=(j:Int)/\j<=out.length/\∀k y,k<j->out[k]?=some y->leB y.str x.str=true) (fun s=>out.length-s.toNat) (fun q=>q=.inl (insU x out,((i+1:Nat):Int))) (by
  rintro s ⟨j,rfl,hj,hp⟩
  have hins:=qjj x out j hp hj
  rcases Nat.eq_or_lt_of_le hj with h0|h0
  .right
   refine ⟨_,?_,rfl⟩
   have hd:insU x out=out.take j++x::out.drop j:=by
    rw[hins,h0,List.drop_length];rfl
   simp only[gQ7h,dF_ (show ¬(j:Int)<(out.length:Int) by omega),cF_]
   exact fin j hj hd
  .have hy:=gE_ h0
   by_cases hle:leB out[j].str x.str=true
   .left
    refine ⟨((j+1:Nat):Int),?_,⟨j+1,rfl,h0,fun k y hk hky=>?_⟩,by simp only[Int.toNat_natCast];omega⟩
    .simp only[gQ7h,dT_ (show (j:Int)<(out.length:Int) by omega),cT_,q9,hy,hx,oB_,qg h0 (show out.length<=9223372036854775807 by omega)]
     have:(Op.bytesLess out[j].str.toList x.str.toList || decide (out[j].str=x.str))=true:=hle
     rw[this,cT_]
    .rcases Nat.eq_or_lt_of_le (Nat.le_of_lt_succ hk) with h|h
     .rw[h,hy]at hky
      rw[←Option.some.inj hky];exact hle
     .exact hp k y h hky
   .right
    refine ⟨_,?_,rfl⟩
    have hd:insU x out=out.take j++x::out.drop j:=by
     rw[hins,List.drop_eq_getElem_cons h0,insU,if_neg hle]
    have hf:(Op.bytesLess out[j].str.toList x.str.toList || decide (out[j].str=x.str))=false:=eq_false_of_ne_true hle
    simp only[gQ7h,dT_ (show (j:Int)<(out.length:Int) by omega),cT_]
    rw[q9,hy,oB_]
    show ((idx l (i:Int)).bind fun x4=>_)=_
    rw[q9,hx,oB_,hf,cF_,←hx,←q9]
    exact fin j hj hd) 0 ⟨0,rfl,Nat.zero_le _,fun k y hk=>absurd hk (Nat.not_lt_zero _)⟩
 rw[q1,q2]
def qcb (o:List Val) (l:List Val):List Val:=l.foldl (fun o x=>insU x o) o
theorem rsorted (l:List Val) (hl:l.length<=5000):gQ7f l=some (lV (qcb [] l)):=by
 unfold gQ7f
 refine qt (body:=gQ7g l) l (fun i (a:List Val)=>(a,(i:Int))) (fun a r=>lV (qcb a r)) (fun a r=>a.length+r.length<=5000) rfl (by simpa using hl) (fun a _=>?_) (fun i x r a hi hx _ hq=>?_)
 .simp only[gQ7g,dF_ (show ¬(l.length:Int)<l.length by omega),cF_];rfl
 .left
  rw[lC_]at hq
  refine ⟨insU x a,by rw[qjk];omega,?_,rfl⟩
  simp only[gQ7g,dT_ (show (i:Int)<l.length by omega),cT_]
  rw[qyz l a i x hx (by omega) (by omega)]
def insS (s:ByteArray):List ByteArray->List ByteArray
 | []=>[s]
 | y::r=>if leB y s=true then y::insS s r else s::y::r
theorem qjl (s:ByteArray):∀l:List ByteArray,insU (strV s) (l.map strV)=(insS s l).map strV
 | []=>rfl
 | y::r=>by
  rw[List.map_cons,insU,insS]
  show (if leB y s=true then strV y::insU (strV s) (r.map strV) else strV s::strV y::r.map strV)=_
  split
  .rw[qjl s r];rfl
  .rfl
theorem qn3:∀(l o:List ByteArray),qcb (o.map strV) (l.map strV)=(l.foldl (fun o s=>insS s o) o).map strV
 | [],o=>rfl
 | s::r,o=>by
  show qcb (insU (strV s) (o.map strV)) (r.map strV)=_
  rw[qjl,qn3 r];rfl
def AscB (l:List ByteArray):Prop:=l.Pairwise fun a b=>Op.bytesLess b.toList a.toList=false
theorem qe4 (s:ByteArray):∀l:List ByteArray,(insS s l).Perm (s::l)
 | []=>List.Perm.refl _
 | y::r=>by
  rw[insS];split
  .exact ((qe4 s r).cons y).trans (List.Perm.swap s y r)
  .exact List.Perm.refl _
theorem qtc {a b c:ByteArray} (h1:Op.bytesLess b.toList a.toList=false) (h2:Op.bytesLess c.toList b.toList=false):Op.bytesLess c.toList a.toList=false:=by
 cases h:Op.bytesLess c.toList a.toList with
 | false=>rfl
 | true =>
  rcases q89 b.toList a.toList with k|k|k
  .rw[k]at h1;cases h1
  .rw[k,h]at h2;cases h2
  .have:=q5s h k
   rw[this]at h2;cases h2
theorem qji (s:ByteArray):∀l:List ByteArray,AscB l->AscB (insS s l)
 | [],_=>List.pairwise_singleton _ _
 | y::r,h=>by
  obtain ⟨h1,h2⟩:=List.pairwise_cons.1 h
  rw[insS]
  by_cases hle:leB y s=true
  .rw[if_pos hle]
   refine List.pairwise_cons.2 ⟨fun b hb=>?_,qji s r h2⟩
   rcases List.mem_cons.1 ((qe4 s r).mem_iff.1 hb) with rfl|hb
   .unfold leB at hle
    rw[Bool.or_eq_true,decide_eq_true_eq]at hle
    rcases hle with hle|rfl
    .exact qkf hle
    .exact q4k _
   .exact h1 b hb
  .rw[if_neg hle]
   have hsy:Op.bytesLess y.toList s.toList=false:=by
    cases e:Op.bytesLess y.toList s.toList with
    | false=>rfl
    | true=>exact absurd (by unfold leB;rw[e];rfl) hle
   refine List.pairwise_cons.2 ⟨fun b hb=>?_,h⟩
   rcases List.mem_cons.1 hb with rfl|hb
   .exact hsy
   .exact qtc hsy (h1 b hb)
theorem qh5:∀{l m:List ByteArray},AscB l->AscB m->l.Perm m->l=m
 | [],m,_,_,h=>(List.nil_perm.1 h).symm
 | a::l,[],_,_,h=>absurd h.length_eq (by simp)
 | a::l,b::m,h1,h2,h=>by
  obtain ⟨p1,p2⟩:=List.pairwise_cons.1 h1
  obtain ⟨q1,q2⟩:=List.pairwise_cons.1 h2
  have e:a=b:=by
   rcases List.mem_cons.1 (h.mem_iff.1 mS_) with e|ha
   .exact e
   rcases List.mem_cons.1 (h.mem_iff.2 mS_) with e|hb
   .exact e.symm
   rcases q89 a.toList b.toList with k|k|k
   .have:=q1 a ha;rw[k]at this;cases this
   .exact q8z k
   .have:=p1 b hb;rw[k]at this;cases this
  subst e
  rw[qh5 p2 q2 h.cons_inv]
theorem qyy (l:List ByteArray):l.foldl (fun o s=>insS s o) []=q2o cmpS l:=by
 have key:∀(l o:List ByteArray),AscB o->AscB (l.foldl (fun o s=>insS s o) o)/\(l.foldl (fun o s=>insS s o) o).Perm (o++l):=by
  intro l
  induction l with
  | nil=>intro o h;exact ⟨h,by simp⟩
  | cons s r ih =>
   intro o h
   obtain ⟨a,b⟩:=ih (insS s o) (qji s o h)
   refine ⟨a,b.trans ?_⟩
   refine ((qe4 s o).append_right r).trans ?_
   rw[List.cons_append]
   exact List.perm_middle.symm
 obtain ⟨a,b⟩:=key l [] List.Pairwise.nil
 refine qh5 a ?_ (b.trans (qcc l).symm)
 exact (q3k swoS l).2.imp fun {x y} h=>by rw[ltS]at h;exact h
def setP (k:ByteArray) (x:Val):List (ByteArray×Val)->List (ByteArray×Val)
 | []=>[(k,x)]
 | (a,v)::r=>if Op.bytesLess a.toList k.toList=true then (a,v)::setP k x r else if a=k then (k,x)::r else (k,x)::(a,v)::r
theorem qmz (k:ByteArray) (x:Val):∀(l:List (ByteArray×Val)) p,p∈setP k x l->p=(k,x)\/p∈l
 | [],p,h=>.inl (m1_.1 h)
 | (a,v)::r,p,h=>by
  rw[setP]at h
  split at h
  .rcases List.mem_cons.1 h with h|h
   .exact .inr (h ▸ mS_)
   .exact (qmz k x r p h).imp id (mC_ _)
  split at h
  .rcases List.mem_cons.1 h with h|h
   .exact .inl h
   .exact .inr (mC_ _ h)
  .rcases List.mem_cons.1 h with h|h
   .exact .inl h
   .exact .inr h
theorem q9u (k:ByteArray) (x:Val):∀(l:List (ByteArray×Val)),SP l->SP (setP k x l)
 | [],_=>List.pairwise_singleton _ _
 | (a,v)::r,h=>by
  obtain ⟨h1,h2⟩:=List.pairwise_cons.1 h
  rw[setP]
  by_cases c:Op.bytesLess a.toList k.toList=true
  .rw[if_pos c]
   refine List.pairwise_cons.2 ⟨fun p hp=>?_,q9u k x r h2⟩
   rcases qmz k x r p hp with rfl|hp
   .exact c
   .exact h1 p hp
  rw[if_neg c]
  by_cases e:a=k
  .rw[if_pos e]
   refine List.pairwise_cons.2 ⟨fun p hp=>?_,h2⟩
   have:=h1 p hp
   rw[e]at this;exact this
  .rw[if_neg e]
   have hk:Op.bytesLess k.toList a.toList=true:=by
    rcases q89 a.toList k.toList with q|q|q
    .exact absurd q c
    .exact absurd (q8z q) e
    .exact q
   refine List.pairwise_cons.2 ⟨fun p hp=>?_,h⟩
   rcases List.mem_cons.1 hp with rfl|hp
   .exact hk
   .exact q5s hk (h1 p hp)
theorem qc6 (k:ByteArray) (x:Val):∀(l:List (ByteArray×Val)),(setP k x l).length<=l.length+1
 | []=>by simp[setP]
 | (a,v)::r=>by
  rw[setP];split
  .have:=qc6 k x r;simp;omega
  split<;>simp
theorem qmy (k:ByteArray) (x:Val) (n:ByteArray):∀(l:List (ByteArray×Val)),SP l->mget (setP k x l) n=if n=k then some x else mget l n
 | [],_=>by
  rw[setP,mget];rfl
 | (a,v)::r,h=>by
  obtain ⟨h1,h2⟩:=List.pairwise_cons.1 h
  rw[setP]
  by_cases c:Op.bytesLess a.toList k.toList=true
  .rw[if_pos c,mget,mget,qmy k x n r h2]
   by_cases e1:n=a
   .have hnk:n≠k:=fun e=>by rw[←e1,←e,q4k]at c;cases c
    rw[if_pos e1,if_neg hnk,if_pos e1]
   .rw[if_neg e1,if_neg e1]
  rw[if_neg c]
  by_cases e:a=k
  .rw[if_pos e,mget,mget,e]
   by_cases e1:n=k
   .rw[if_pos e1,if_pos e1]
   .rw[if_neg e1,if_neg e1,if_neg e1]
  .rw[if_neg e,mget]
theorem ql0 (k:ByteArray) (x:Val) (n:ByteArray):∀(l:List (ByteArray×Val)),mget (mput l k x) n=if n=k then some x else mget l n
 | []=>by rw[mput,mget];rfl
 | (a,v)::r=>by
  rw[mput]
  by_cases e:k=a
  .rw[if_pos e,mget,mget,e]
   by_cases e1:n=a
   .rw[if_pos e1,if_pos e1]
   .rw[if_neg e1,if_neg e1,if_neg e1]
  .rw[if_neg e,mget,mget,ql0 k x n r]
   by_cases e1:n=a
   .rw[if_pos e1,if_pos e1,if_neg (fun h=>e (h.symm.trans e1))]
   .rw[if_neg e1,if_neg e1]
theorem qkv {l:List (ByteArray×Val)} (h:(l.map (·.1)).Nodup) (p:ByteArray×Val):p∈l↔mget l p.1=some p.2:=by
 induction l with
 | nil=>simp[mget]
 | cons q r ih =>
  obtain ⟨a,v⟩:=q
  rw[List.map_cons,List.nodup_cons]at h
  rw[mget]
  by_cases e:p.1=a
  .rw[if_pos e]
   constructor
   .intro hp
    rcases List.mem_cons.1 hp with rfl|hp
    .rfl
    .exact absurd (e ▸ List.mem_map.2 ⟨p,hp,rfl⟩) h.1
   .intro hv
    have:p=(a,v):=Prod.ext e (Option.some.inj hv).symm
    rw[this];exact mS_
  .rw[if_neg e,←ih h.2,List.mem_cons]
   exact ⟨fun hp=>hp.elim (fun h=>absurd (by rw[h]) e) id,.inr⟩
theorem qz1 {l:List (ByteArray×Val)} (h:SP l):(l.map (·.1)).Nodup:=by
 refine List.pairwise_map.2 (h.imp fun {p q} hpq e=>?_)
 rw[e,q4k]at hpq;cases hpq
def q2v (l ps:List (ByteArray×Val)):List (ByteArray×Val):=ps.foldl (fun l p=>setP p.1 p.2 l) l
theorem qc5:∀(ps l:List (ByteArray×Val)),SP l->SP (q2v l ps)
 | [],l,h=>h
 | p::r,l,h=>qc5 r _ (q9u p.1 p.2 l h)
theorem qmx:∀(ps l:List (ByteArray×Val)),(q2v l ps).length<=l.length+ps.length
 | [],l=>Nat.le_refl _
 | p::r,l=>by
  have:=qmx r (setP p.1 p.2 l)
  have:=qc6 p.1 p.2 l
  show (q2v (setP p.1 p.2 l) r).length<=_
  rw[lC_];omega
theorem qfl:∀(ps l m:List (ByteArray×Val)),SP l->(∀n,mget l n=mget m n)->∀n,mget (q2v l ps) n=mget (q2n m ps) n
 | [],l,m,_,h=>h
 | p::r,l,m,hs,h=>qfl r (setP p.1 p.2 l) (mput m p.1 p.2) (q9u _ _ _ hs) fun n=>by rw[qmy _ _ _ _ hs,ql0,h n]
theorem qn1 (l m:List (ByteArray×Val)) (hs:SP l) (hn:(m.map (·.1)).Nodup) (h:∀n,mget l n=mget m n):l=q1l [] m:=by
 obtain ⟨f1,f2,f3⟩:=q7z m ([]:List (ByteArray×Val)) List.Pairwise.nil hn (fun _ _ q hq=>absurd hq mN_)
 refine qfv hs f1 fun p=>?_
 rw[f2,qkv (qz1 hs),h,←qkv hn]
 exact ⟨.inr,fun h=>h.elim (fun h=>absurd h mN_) id⟩
theorem rput (L:List (ByteArray×Val)) (k:ByteArray) (x:Val) (hs:SP L) (hl:L.length<=50000):gQ4m (q1m L) k x=some (q1m (setP k x L)):=by
 unfold gQ4m
 have hk:(q1m L).keys=L.map (·.1):=rfl
 have hi:(q1m L).items=L.map (·.2):=rfl
 obtain ⟨q,q1,q2⟩:=q1w (body:=gQ4n (q1m L) k x) (fun s=>∃(d:Bool) (i:Nat) (P:List (ByteArray×Val)),s=(d,(i:Int),P.map (·.2),P.map (·.1))/\i<=L.length/\P.length<=i+1/\(d=false->P.length<=i)/\(d=false->P++setP k x (L.drop i)=setP k x L/\∀p∈L.take i,Op.bytesLess p.1.toList k.toList=true)/\(d=true->P++L.drop i=setP k x L/\∀p∈L.drop i,p.1≠k)) (fun s=>L.length-s.2.1.toNat) (fun q=>q=q1m (setP k x L)) (by
  rintro s ⟨d,i,P,rfl,hil,hP,hPf,hf,ht⟩
  have a16:∀(Q:List (ByteArray×Val)) (z:ByteArray),Q.length<=60000->app 16 (Q.map (·.1)) [z]=some (Q.map (·.1)++[z]):=fun Q z hQ=>q1k _ z (m:=16) (n:=100001) (by decide) (by rw[lM_];omega) (by decide)
  have a80:∀(Q:List (ByteArray×Val)) (z:Val),Q.length<=60000->app 80 (Q.map (·.2)) [z]=some (Q.map (·.2)++[z]):=fun Q z hQ=>q1k _ z (m:=80) (n:=100001) (by decide) (by rw[lM_];omega) (by decide)
  rcases Nat.eq_or_lt_of_le hil with h0|h0
  .right
   simp only[gQ4n,hk,hi,lM_,dF_ (show ¬(i:Int)<(L.length:Int) by omega),cF_]
   rw[h0,List.drop_length]at hf ht
   cases d with
   | false =>
    rw[nF_,cT_,a16 P k (by omega),oB_,a80 P x (by omega),oB_]
    refine ⟨_,rfl,?_⟩
    rw[←(hf rfl).1]
    show _=q1m (P++[(k,x)])
    unfold q1m
    simp
   | true =>
    refine ⟨_,rfl,?_⟩
    rw[←(ht rfl).1,List.append_nil];rfl
  .left
   have hx:=gE_ h0
   have hxk:(L.map (·.1))[i]?=some L[i].1:=by rw[List.getElem?_map,hx];rfl
   have hxi:(L.map (·.2))[i]?=some L[i].2:=by rw[List.getElem?_map,hx];rfl
   have hdrop:=List.drop_eq_getElem_cons h0
   have hw:=qg h0 (show L.length<=9223372036854775807 by omega)
   have hsd:SP (L.drop i):=hs.sublist (List.drop_sublist i L)
   rw[hdrop]at hsd
   have hgt:=(List.pairwise_cons.1 hsd).1
   have b16:=fun Q z hQ=>a16 Q z hQ
   simp only[gQ4n,hk,hi,lM_,dT_ (show (i:Int)<(L.length:Int) by omega),cT_,q9,hxk,hxi,oB_,hw]
   cases d with
   | false =>
    obtain ⟨f1,f2⟩:=hf rfl
    rw[nF_,cT_]
    by_cases c:Op.bytesLess L[i].1.toList k.toList=true
    .rw[c,nT_,cF_,dF_ (fun e=>by rw[e,q4k]at c;cases c),nF_,cT_,a16 P L[i].1 (by omega),oB_,a80 P L[i].2 (by omega),oB_]
     refine ⟨_,rfl,⟨false,i+1,P++[L[i]],by simp,h0,by simp;omega,fun _=>(by have:=hPf rfl;simp;omega),fun _=>⟨?_,fun p hp=>?_⟩,fun h=>by cases h⟩,by simp only[Int.toNat_natCast];omega⟩
     .rw[←f1,hdrop]
      show _=P++(if Op.bytesLess L[i].1.toList k.toList=true then L[i]::setP k x (L.drop (i+1)) else _)
      rw[if_pos c,List.append_assoc];rfl
     .rw[List.take_add_one,hx]at hp
      rcases mA_.1 hp with hp|hp
      .exact f2 p hp
      .have:p=L[i]:=by simpa using hp
       rw[this];exact c
    .have c':=eq_false_of_ne_true c
     rw[c',nF_,cT_,a16 P k (by omega),oB_,a80 P x (by omega),oB_]
     by_cases e:L[i].1=k
     .rw[dT_ e,nT_,cF_]
      refine ⟨_,rfl,⟨true,i+1,P++[(k,x)],by simp,h0,by simp;omega,fun h=>(by cases h),fun h=>(by cases h),fun _=>⟨?_,fun p hp e2=>?_⟩⟩,by simp only[Int.toNat_natCast];omega⟩
      .rw[←f1,hdrop]
       show _=P++(if Op.bytesLess L[i].1.toList k.toList=true then _ else if L[i].1=k then (k,x)::L.drop (i+1) else _)
       rw[if_neg c,if_pos e,List.append_assoc];rfl
      .have:=hgt p hp
       rw[e,e2,q4k]at this;cases this
     .have hkl:Op.bytesLess k.toList L[i].1.toList=true:=by
       rcases q89 L[i].1.toList k.toList with q|q|q
       .exact absurd q c
       .exact absurd (q8z q) e
       .exact q
      have m16:=a16 (P++[(k,x)]) L[i].1 (by simp;omega)
      have m80:=a80 (P++[(k,x)]) L[i].2 (by simp;omega)
      simp only[List.map_append,List.map_cons,List.map_nil]at m16 m80
      rw[dF_ e,nF_,cT_,m16,oB_,m80,oB_]
      refine ⟨_,rfl,⟨true,i+1,P++[(k,x),L[i]],by simp,h0,?_,fun h=>(by cases h),fun h=>(by cases h),fun _=>⟨?_,fun p hp e2=>?_⟩⟩,by simp only[Int.toNat_natCast];omega⟩
      .have:=hPf rfl;simp;omega
      .rw[←f1,hdrop]
       show _=P++(if Op.bytesLess L[i].1.toList k.toList=true then _ else if L[i].1=k then _ else (k,x)::L[i]::L.drop (i+1))
       rw[if_neg c,if_neg e,List.append_assoc];rfl
      .have:=q5s hkl (hgt p hp)
       rw[e2,q4k]at this;cases this
   | true =>
    obtain ⟨t1,t2⟩:=ht rfl
    have hne:L[i].1≠k:=t2 L[i] (by rw[hdrop];exact mS_)
    rw[nT_,cF_,dF_ hne,nF_,cT_,a16 P L[i].1 (by omega),oB_,a80 P L[i].2 (by omega),oB_]
    refine ⟨_,rfl,⟨true,i+1,P++[L[i]],by simp,h0,by simp;omega,fun h=>(by cases h),fun h=>(by cases h),fun _=>⟨?_,fun p hp=>t2 p (by rw[hdrop];exact mC_ _ hp)⟩⟩,by simp only[Int.toNat_natCast];omega⟩
    rw[←t1,hdrop,List.append_assoc];rfl) (false,0,[],[]) ⟨false,0,[],rfl,Nat.zero_le _,by simp,fun _=>Nat.le_refl _,fun _=>⟨rfl,by simp⟩,fun h=>by cases h⟩
 rw[q1,q2]
open Go.RowKit
def kvs (v:Val):List (ByteArray×Val):=v.keys.zip v.items
theorem qyj (l a b:List (ByteArray×Val)):q2v l (a++b)=q2v (q2v l a) b:=by unfold q2v;rw[List.foldl_append]
theorem qku:∀(l:List Val) (m:List (ByteArray×Val)),q48 m l=q2n m (l.flatMap kvs)
 | [],m=>rfl
 | v::r,m=>by
  show q48 (q2n m (kvs v)) r=_
  rw[qku r,List.flatMap_cons]
  unfold q2n
  rw[List.foldl_append]
theorem qxe (args:List Val) (i:Nat) (x:Val) (hx:args[i]?=some x) (hl:args.length<=1000) (hk:x.keys.length=x.items.length) (hk2:x.keys.length<=400) (L:List (ByteArray×Val)) (hs:SP L) (hL:L.length<=40000) (a:Int) (b:Int) (c:ByteArray) (d:List Val) (e:List ByteArray) :
  q7 (gQ7o args (a,b,c,d,e,(i:Int))) (5,0,eS,L.map (·.2),L.map (·.1),0)=some (.inl (5,0,eS,(q2v L (kvs x)).map (·.2),(q2v L (kvs x)).map (·.1),((i+1:Nat):Int))):=by
 have hil:=(List.getElem?_eq_some_iff.1 hx).1
 have zl:(kvs x).length=x.keys.length:=by unfold kvs;rw[List.length_zip];omega
 refine qt (body:=gQ7o args (a,b,c,d,e,(i:Int))) (kvs x) (fun j (L:List (ByteArray×Val))=>((5:Int),(0:Int),eS,L.map (·.2),L.map (·.1),(j:Int))) (fun L r=>.inl (5,0,eS,(q2v L r).map (·.2),(q2v L r).map (·.1),((i+1:Nat):Int))) (fun L r=>SP L/\L.length+r.length<=40400) rfl ⟨hs,by omega⟩ (fun M _=>?_) (fun j p r M hj hp _ hq=>?_)
 .rw[zl]
  simp only[gQ7o,q9,hx,oB_,dF_ (show ¬(x.keys.length:Int)<(x.keys.length:Int) by omega),cF_,qg hil (show args.length<=9223372036854775807 by omega)]
  rfl
 .left
  obtain ⟨q1,q2⟩:=hq
  rw[lC_]at q2
  obtain ⟨e1,e2⟩:=q8p (show (x.keys.zip x.items)[j]?=some p from hp)
  rw[zl]at hj
  have hput:gQ4m (Val.mk 5 0 eS (M.map (·.2)) (M.map (·.1))) p.1 p.2=some (q1m (setP p.1 p.2 M)):=rput M p.1 p.2 q1 (by omega)
  refine ⟨setP p.1 p.2 M,⟨q9u _ _ _ q1,by have:=qc6 p.1 p.2 M;omega⟩,?_,rfl⟩
  simp only[gQ7o,q9,hx,oB_,dT_ (show (j:Int)<(x.keys.length:Int) by omega),cT_,e1,e2,hput,qg hj (show x.keys.length<=9223372036854775807 by omega)]
  rfl
theorem rmerge (l:List Val) (hl:l.length<=100) (h:∀v∈l,v.keys.length=v.items.length/\v.keys.length<=400):q7 (gQ7n l) (5,0,eS,[],[],0)=some (q1m (q1l [] (q48 [] l)),0):=by
 have hfin:q2v [] (l.flatMap kvs)=q1l [] (q48 [] l):=by
  rw[qku]
  exact qn1 _ _ (qc5 _ _ List.Pairwise.nil) (qfg _ _ List.nodup_nil) (qfl _ _ _ List.Pairwise.nil fun _=>rfl)
 rw[←hfin]
 refine qt (body:=gQ7n l) l (fun j (L:List (ByteArray×Val))=>((5:Int),(0:Int),eS,L.map (·.2),L.map (·.1),(j:Int))) (fun L r=>(q1m (q2v L (r.flatMap kvs)),(0:Int))) (fun L r=>SP L/\L.length+r.length*400<=40000/\∀v∈r,v.keys.length=v.items.length/\v.keys.length<=400) rfl ⟨List.Pairwise.nil,by simp;omega,h⟩ (fun M _=>?_) (fun j x r M hj hx _ hq=>?_)
 .simp only[gQ7n,dF_ (show ¬(l.length:Int)<(l.length:Int) by omega),cF_]
  rfl
 .left
  obtain ⟨q1,q2,q3⟩:=hq
  rw[lC_,Nat.add_mul]at q2
  obtain ⟨v1,v2⟩:=q3 x mS_
  have hkl:(kvs x).length<=x.keys.length:=by unfold kvs;rw[List.length_zip];omega
  refine ⟨q2v M (kvs x),⟨qc5 _ _ q1,by have:=qmx (kvs x) M;omega,fun v hv=>q3 v (mC_ _ hv)⟩,?_,by rw[List.flatMap_cons,qyj]⟩
  simp only[gQ7n,dT_ (show (j:Int)<(l.length:Int) by omega),cT_]
  rw[qxe l j x hx (by omega) v1 v2 M q1 (by omega)]
theorem quc {m:List (ByteArray×Val)} {k:ByteArray} {v:Val} (h:k ∉ m.map (·.1)):mput m k v=m++[(k,v)]:=by
 induction m with
 | nil=>rfl
 | cons p r ih =>
  obtain ⟨a,b⟩:=p
  rw[List.map_cons,List.mem_cons,not_or]at h
  rw[mput,if_neg h.1,ih h.2];rfl
theorem qlu:∀(ps m:List (ByteArray×Val)),((m++ps).map (·.1)).Nodup->q2n m ps=m++ps
 | [],m,_=>by simp[q2n]
 | p::r,m,h=>by
  have hk:p.1 ∉ m.map (·.1):=fun hm=>by
   rw[List.map_append,List.nodup_append]at h
   exact h.2.2 p.1 hm p.1 (by simp) rfl
  show q2n (mput m p.1 p.2) r=_
  rw[quc hk,qlu r (m++[(p.1,p.2)]) (by rw[List.append_assoc];exact h),List.append_assoc];rfl
theorem qyk (ps:List (ByteArray×Val)) (h:(ps.map (·.1)).Nodup):q2v [] ps=q1l [] ps :=
 qn1 _ _ (qc5 _ _ List.Pairwise.nil) h fun n=>by rw[qfl ps [] [] List.Pairwise.nil (fun _=>rfl) n,qlu ps [] h,List.nil_append]
def dupB (x y:Val):Bool:=!decide (x.kind=6)&&(!decide (y.kind=6)&&decide (x.str=y.str))
theorem qmt (k:Val) (y10:Bool) (sure:Bool) (i:Nat) (x:Val) (hx:k.items[i]?=some x) (hl:k.items.length<=100000) :
  q7 (gQ8j k y10 (sure,(i:Int))) 0=some (bif ((k.items.take i).any fun y=>dupB x y) then .inr (vZ,8) else .inl (!y10,((i+1:Nat):Int))):=by
 have hil:=(List.getElem?_eq_some_iff.1 hx).1
 have htl:(k.items.take i).length=i:=by rw[List.length_take];omega
 refine qt (body:=gQ8j k y10 (sure,(i:Int))) (k.items.take i) (fun j (_:Unit)=>(j:Int)) (fun _ r=>bif (r.any fun y=>dupB x y) then .inr (vZ,8) else .inl (!y10,((i+1:Nat):Int))) (fun _ _=>True) (a:=()) rfl trivial (fun _ _=>?_) (fun j y r _ hj hy _ _=>?_)
 .rw[htl]
  simp only[gQ8j,dF_ (show ¬(i:Int)<(i:Int) by omega),cF_,qg hil (show k.items.length<=9223372036854775807 by omega)]
  rfl
 .rw[htl]at hj
  have hyl:k.items[j]?=some y:=by rw[←hy,List.getElem?_take,if_pos hj]
  simp only[gQ8j,dT_ (show (j:Int)<(i:Int) by omega),cT_,q9,hx,hyl,oB_,q22,qg (show j<k.items.length by omega) (show k.items.length<=9223372036854775807 by omega),List.any_cons,dupB]
  by_cases h6:x.kind=6
  .left
   rw[dT_ h6];exact ⟨(),trivial,rfl,rfl⟩
  rw[dF_ h6,nF_,cT_,Bool.true_and]
  by_cases y6:y.kind=6
  .left
   rw[dT_ y6];exact ⟨(),trivial,rfl,rfl⟩
  rw[dF_ y6,nF_,cT_,Bool.true_and]
  by_cases he:x.str=y.str
  .right;rw[dT_ he];rfl
  .left;rw[dF_ he];exact ⟨(),trivial,rfl,rfl⟩
theorem qyg (k:Val) (i:Nat) (x:Val) (hx:k.items[i]?=some x) (hl:k.items.length<=100000) :
  q7 (gQ8k k (false,(i:Int))) 0=some (bif ((k.items.take i).any fun y=>dupB x y) then .inr (vZ,8) else .inl (false,((i+1:Nat):Int))):=by
 have e:gQ8k k (false,(i:Int))=gQ8j k true (false,(i:Int)):=rfl
 rw[e];exact qmt k true false i x hx hl
theorem qyh (k v:Val) (hn:k.items.length=v.items.length) (hl:k.items.length<=30000):q7 (gQ8l k v) (5,0,eS,[],[],0)=some (.inr (q1m (q2v [] ((k.items.map Val.str).zip v.items)),0)):=by
 have zl:((k.items.map Val.str).zip v.items).length=k.items.length:=by rw[List.length_zip,lM_];omega
 refine qt (body:=gQ8l k v) ((k.items.map Val.str).zip v.items) (fun j (L:List (ByteArray×Val))=>((5:Int),(0:Int),eS,L.map (·.2),L.map (·.1),(j:Int))) (fun L r=>.inr (q1m (q2v L r),(0:Int))) (fun L r=>SP L/\L.length+r.length<=40000) rfl ⟨List.Pairwise.nil,by rw[zl];simp;omega⟩ (fun M _=>?_) (fun j p r M hj hp _ hq=>?_)
 .rw[zl]
  simp only[gQ8l,dF_ (show ¬(k.items.length:Int)<(k.items.length:Int) by omega),cF_]
  rfl
 .left
  obtain ⟨q1,q2⟩:=hq
  rw[lC_]at q2
  rw[zl]at hj
  obtain ⟨e1,e2⟩:=q8p hp
  rw[List.getElem?_map]at e1
  obtain ⟨w,hw,hws⟩:=oM_.1 e1
  have hput:gQ4m (Val.mk 5 0 eS (M.map (·.2)) (M.map (·.1))) w.str p.2=some (q1m (setP p.1 p.2 M)):=by rw[hws];exact rput M p.1 p.2 q1 (by omega)
  refine ⟨setP p.1 p.2 M,⟨q9u _ _ _ q1,by have:=qc6 p.1 p.2 M;omega⟩,?_,rfl⟩
  simp only[gQ8l,dT_ (show (j:Int)<(k.items.length:Int) by omega),cT_,q9,hw,e2,oB_,hput,qg hj (show k.items.length<=9223372036854775807 by omega)]
  rfl
theorem qmu (k v:Val) (sure:Bool) (hl:k.items.length<=30000) (hn:sure=true->k.items.length=v.items.length) :
  q7 (gQ89 k v) (sure,0)=some (match zipE [] k.items with
  | none=>(vZ,8)
  | some ks=>bif (sure&&k.items.all fun x=>!decide (x.kind=6)) then (q1m (q1l [] (ks.zip v.items)),0) else (vU,0)):=by
 refine qt (body:=gQ89 k v) k.items (fun i (a:List ByteArray×Bool)=>(a.2,(i:Int))) (fun a r=>match zipE a.1 r with
  | none=>(vZ,(8:Int))
  | some ks=>bif (a.2&&r.all fun x=>!decide (x.kind=6)) then (q1m (q1l [] (ks.zip v.items)),0) else (vU,0)) (fun a r=>r.length<=k.items.length/\a.1.Nodup/\(∀s,s∈a.1↔∃y∈k.items.take (k.items.length - r.length),y.kind≠6/\y.str=s)/\(a.2=true->sure=true/\a.1=(k.items.take (k.items.length - r.length)).map Val.str)) (a:=([],sure)) rfl ⟨Nat.le_refl _,List.nodup_nil,fun s=>by simp,fun h=>⟨h,by simp⟩⟩ (fun a hq=>?_) (fun i x r a hi hx hd hq=>?_)
 .obtain ⟨_,h1,h2,h3⟩:=hq
  simp only[gQ89,dF_ (show ¬(k.items.length:Int)<(k.items.length:Int) by omega),cF_,zipE,List.all_nil,Bool.and_true]
  obtain ⟨acc,s⟩:=a
  cases s with
  | false=>rfl
  | true =>
   obtain ⟨e1,e2⟩:=h3 rfl
   rw[List.length_nil,Nat.sub_zero,List.take_length]at e2
   have e2:acc=k.items.map Val.str:=e2
   show (bif (!true) then _ else q7 (gQ8l k v) (5,0,eS,[],[],0))=_
   rw[nT_,cF_,qyh k v (hn e1) hl,qyk _ (by rw[List.map_fst_zip (by rw[lM_];have:=hn e1;omega),←e2];exact h1),e2]
   rfl
 .obtain ⟨h0,h1,h2,h3⟩:=hq
  obtain ⟨acc,s⟩:=a
  have hr:k.items.length-(x::r).length=i:=by
   have:=congrArg List.length hd
   rw[List.length_drop]at this;omega
  have hr':k.items.length-r.length=i+1:=by rw[lC_]at hr h0;omega
  rw[hr]at h2 h3
  have htk:k.items.take (i+1)=k.items.take i++[x]:=by rw[List.take_add_one,hx];rfl
  have hdup:((k.items.take i).any fun y=>dupB x y)=(!decide (x.kind=6)&&hasB acc x.str):=by
   rw[Bool.eq_iff_iff,List.any_eq_true,Bool.and_eq_true,q52,h2 x.str]
   constructor
   .rintro ⟨y,hy,h⟩
    unfold dupB at h
    simp only[Bool.and_eq_true,Bool.not_eq_true',decide_eq_false_iff_not,decide_eq_true_eq]at h
    exact ⟨by simpa using h.1,y,hy,h.2.1,h.2.2.symm⟩
   .rintro ⟨h,y,hy,g1,g2⟩
    refine ⟨y,hy,?_⟩
    unfold dupB
    simp only[Bool.and_eq_true,Bool.not_eq_true',decide_eq_false_iff_not,decide_eq_true_eq]
    exact ⟨by simpa using h,g1,g2.symm⟩
  have step:gQ89 k v (s,(i:Int))=bif (!decide (x.kind=6)&&hasB acc x.str) then some (.inr (vZ,8)) else some (.inl (s&&!decide (x.kind=6),((i+1:Nat):Int))):=by
   rw[←hdup]
   cases s with
   | true =>
    simp only[gQ89,dT_ (show (i:Int)<(k.items.length:Int) by omega),cT_,q9,hx,oB_,q22]
    rw[qmt k _ true i x hx (by omega)]
    cases ((k.items.take i).any fun y=>dupB x y)<;>rfl
   | false =>
    simp only[gQ89,dT_ (show (i:Int)<(k.items.length:Int) by omega),cT_,cF_]
    rw[qyg k i x hx (by omega)]
    cases ((k.items.take i).any fun y=>dupB x y)<;>rfl
  show (∃a',_/\gQ89 k v (s,(i:Int))=_/\_)\/gQ89 k v (s,(i:Int))=_
  rw[step]
  simp only[zipE,List.all_cons]
  by_cases h6:x.kind=6
  .left
   rw[dT_ h6,nT_,Bool.false_and,cF_,if_pos h6,Bool.and_false,Bool.false_and,Bool.and_false]
   refine ⟨(acc,false),⟨by rw[lC_]at h0;omega,h1,fun t=>?_,fun h=>by cases h⟩,rfl,?_⟩
   .rw[hr',htk,h2 t]
    constructor
    .rintro ⟨y,hy,g⟩;exact ⟨y,List.mem_append_left _ hy,g⟩
    .rintro ⟨y,hy,g1,g2⟩
     rcases mA_.1 hy with hy|hy
     .exact ⟨y,hy,g1,g2⟩
     .rw[m1_.1 hy]at g1;exact absurd h6 g1
   .cases zipE acc r<;>rfl
  .rw[dF_ h6,nF_,Bool.true_and,if_neg h6,Bool.and_true,Bool.true_and]
   cases hb:hasB acc x.str with
   | true=>right;rfl
   | false =>
    left
    rw[cF_]
    refine ⟨(acc++[x.str],s),⟨by rw[lC_]at h0;omega,?_,fun t=>?_,fun h=>?_⟩,rfl,rfl⟩
    .rw[List.nodup_append]
     refine ⟨h1,by simp,fun y hy z hz e=>?_⟩
     have:z=x.str:=by simpa using hz
     subst this;subst e
     rw[q52.2 hy]at hb;cases hb
    .rw[hr',htk,mA_,h2 t,m1_]
     constructor
     .rintro (⟨y,hy,g⟩|rfl)
      .exact ⟨y,List.mem_append_left _ hy,g⟩
      .exact ⟨x,List.mem_append_right _ (m1_.2 rfl),h6,rfl⟩
     .rintro ⟨y,hy,g1,g2⟩
      rcases mA_.1 hy with hy|hy
      .exact .inl ⟨y,hy,g1,g2⟩
      .rw[m1_.1 hy]at g2;exact .inr g2.symm
    .obtain ⟨e1,e2⟩:=h3 h
     refine ⟨e1,?_⟩
     show acc++[x.str]=_
     rw[hr',htk,List.map_append]
     have e2:acc=(k.items.take i).map Val.str:=e2
     rw[e2];rfl
theorem rzipped {k v:Val} (ck:Ck k) (cv:Ck v) (k4:k.kind=4\/k.kind=6) (v4:v.kind=4\/v.kind=6) (hki:∀x∈k.items,x.kind=3\/x.kind=6) (hl:k.items.length<=400):gQ88 k v=some (zipS k v):=by
 unfold gQ88
 simp only[q22,oB_]
 by_cases k6:k.kind=6
 .have e:=qci ck.ok k6
  subst e
  rw[dF_ (show ¬vU.kind=4 by decide),dT_ (show vU.kind=6 from rfl)]
  have:zipS vU v=(vU,0):=by
   unfold zipS
   rw[if_neg (fun h=>absurd h.1 (by decide))];rfl
  rw[this]
  show q7 (gQ8h vU) 0=_
  exact q2c rfl
 have hk4:k.kind=4:=by omega
 have hkn:=qee ck k6 (fun x hx=>by have:=hki x hx;omega)
 have hall:(k.items.all fun x=>!decide (x.kind=6))=qc k:=by rw[hkn,List.not_any_eq_all_not]
 have h7:gQ8o k v=gQ89 k v:=rfl
 rw[dT_ hk4,cT_,dF_ k6,nF_,cT_,cT_,h7]
 unfold zipS
 by_cases hv4:v.kind=4
 .have hv6:¬v.kind=6:=by omega
  rw[dT_ hv4,cT_]
  by_cases hlen:k.items.length=v.items.length
  .rw[dT_ (show (k.items.length:Int)=v.items.length by omega),nT_,cF_,dF_ hv6,qmu k v _ (by omega) (fun _=>hlen),if_neg (fun h=>h.2.2 hlen),hall,nF_,Bool.true_and]
   cases zipE [] k.items with
   | none=>rfl
   | some ks =>
    show some (bif qc k then _ else _)=some (if qc k=false\/v.kind=6 then _ else _)
    cases qc k with
    | true=>rw[cT_,if_neg (fun h=>h.elim (fun h=>by cases h) hv6)]
    | false=>rw[cF_,if_pos (.inl rfl)]
  .rw[dF_ (show ¬(k.items.length:Int)=v.items.length by omega),nF_,cT_,if_pos ⟨hk4,hv4,hlen⟩]
 .have hv6:v.kind=6:=by omega
  rw[dF_ hv4,cF_,dT_ hv6,qmu k v _ (by omega) (fun h=>by cases h),if_neg (fun h=>hv4 h.2.1),nT_,Bool.false_and]
  cases zipE [] k.items with
  | none=>rfl
  | some ks =>
   show some (bif false then _ else _)=some (if qc k=false\/v.kind=6 then _ else _)
   rw[cF_,if_pos (.inr hv6)]
end Abs
end Go.Proofs.YtagadjpmkggjdaaGreatDoor
