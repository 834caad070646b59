import Derived.Test.YtagadjpmkggjdaaGreatDoorPrH
namespace Go.Proofs.YtagadjpmkggjdaaGreatDoor
set_option linter.unusedSimpArgs false
set_option linter.unusedVariables false
namespace Abs
open Go.RowKit
noncomputable def rbr (k:Nm) (l:List Val):Option (Val×Int) :=
 match k with
 | .nAbs|.nMax|.nMin|.nRange|.nSum=>gQ75 (nmB k) l
 | .nEndswith|.nJoin|.nLower|.nReplace|.nSplit|.nStartswith|.nTrim|.nUpper=>gQ7s (nmB k) l
 | .nConcat|.nContains|.nDistinct|.nElement|.nFlatten|.nIndex|.nReverse|.nSlice|.nSort=>gQ6z (nmB k) l
 | .nKeys|.nLookup|.nMerge|.nValues|.nZipmap=>gQ7l (nmB k) l
 | .nLength=>(idx l 0).bind fun x=>(gQ6v x).bind fun y=>some (y,0)
 | .nTobool=>(idx l 0).bind fun x=>(gQ4p x (Ty.mk 1 [] [])).bind fun y=>some (y.1,y.2)
 | .nTonumber=>(idx l 0).bind fun x=>(gQ4p x (Ty.mk 2 [] [])).bind fun y=>some (y.1,y.2)
 | .nTostring=>(idx l 0).bind fun x=>(gQ4p x (Ty.mk 3 [] [])).bind fun y=>some (y.1,y.2)
 | .nCoalesce=>q7 (gQ5w l) 0
theorem qwe (k:Nm) (l:List Val):gQ5v (nmB k) l=rbr k l:=by
 cases k
 case nLength=>rfl
 case nTobool=>rfl
 case nTonumber=>rfl
 case nTostring=>rfl
 case nCoalesce=>rfl
 all_goals exact (show gQ5v _ l=(rbr _ l).bind fun y=>some (y.1,y.2) from rfl).trans (q35 _)
def Rp (k:Nm):Prop:=∀l:List Val,Args l->arOk k l=true->q37 k l=true->((spB k).strict&&q17 k l)=false->rbr k l=some (apS k l)
theorem rp_abs:Rp .nAbs:=by
 intro l ha hb hf ho
 obtain ⟨a,rfl⟩:=q20 hb rfl rfl
 have c:=(ha.at (i:=0) rfl).1
 have o:=q2z (show q17 .nAbs [a]=false from ho) (i:=0) rfl
 have f:=q51 (q1u hf (i:=0) rfl)
 have b:=q8d c (by omega)
 show (bif (decide (a.num<0)) then (gQ73 (IntKind.i64.wrap (0-a.num))).bind fun y4=>some (y4,0) else (gQ73 a.num).bind fun y5=>some (y5,0))=some (vNum a.num.natAbs,0)
 rw[qy (by omega) (by omega)]
 by_cases h:a.num<0
 .rw[dT_ h]
  show some (vNum (0-a.num),(0:Int))=_
  congr 3;omega
 .rw[dF_ h]
  show some (vNum a.num,(0:Int))=_
  congr 3;omega
theorem qmo {k:Nm} (hk:k=.nMax\/k=.nMin):Rp k:=by
 intro l ha hb hf ho
 have h1:(spB k).least=1:=by rcases hk with rfl|rfl<;>rfl
 have h2:(spB k).strict=true:=by rcases hk with rfl|rfl<;>rfl
 have h3:∀i,lett k i=110:=fun i=>by rw[qbi (by rcases hk with rfl|rfl<;>rfl)];rcases hk with rfl|rfl<;>rfl
 obtain ⟨a,r,rfl⟩:=q4q hb h1
 rw[h2,Bool.true_and]at ho
 have hv:∀v∈a::r,v=vNum v.num:=fun v hv=>by
  obtain ⟨i,hi⟩:=List.getElem?_of_mem hv
  have o:=q2z ho hi
  have f:=q1u hf hi
  rw[h3]at f
  have f:=q51 f
  exact quj (ha.ck v hv) (by omega)
 have hl:=ha.len
 have ea:=hv a mS_
 have hr:∀v∈r,v=vNum v.num:=fun v h=>hv v (mC_ _ h)
 rcases hk with rfl|rfl
 .show q7 (gQ76 (a::r)) (a.num,0)=some (extS 1 a r,0)
  rw[qxd _ (by omega),List.foldl_cons,if_neg (by omega)]
  conv=>rhs;rw[ea]
  rw[qiq r a.num hr]
 .show q7 (gQ77 (a::r)) (a.num,0)=some (extS (-1) a r,0)
  rw[qxf _ (by omega),List.foldl_cons,if_neg (by omega)]
  conv=>rhs;rw[ea]
  rw[qir r a.num hr]
theorem qxw:Rp .nRange:=by
 intro l ha hb hf ho
 obtain ⟨a,r,rfl⟩:=q4q hb rfl
 have ho:q17 .nRange (a::r)=false:=ho
 have c:=(ha.at (i:=0) rfl).1
 have o:=q2z ho (i:=0) rfl
 have f:=q51 (q1u hf (i:=0) rfl)
 have b:=c.num_ok (by omega)
 cases r with
 | nil =>
  show ((gQ64 0 a.num).bind fun y=>some (y.1,y.2))=some (q3s 0 a.num)
  rw[q35,qm7 (by decide) b]
 | cons x t =>
  have ht:t=[]:=by
   unfold arOk at hb
   have:(spB .nRange).most=2:=rfl
   rw[this]at hb
   simp only[Bool.and_eq_true,decide_eq_true_eq,lC_]at hb
   exact List.length_eq_zero_iff.1 (by omega)
  subst ht
  have c2:=(ha.at (i:=1) rfl).1
  have o2:=q2z ho (i:=1) rfl
  have f2:=q51 (q1u hf (i:=1) rfl)
  show ((gQ64 a.num x.num).bind fun y=>some (y.1,y.2))=some (q3s a.num x.num)
  rw[q35,qm7 b (c2.num_ok (by omega))]
theorem rp_sum:Rp .nSum:=by
 intro l ha hb hf ho
 obtain ⟨a,rfl⟩:=q20 hb rfl rfl
 have ho:q17 .nSum [a]=false:=ho
 obtain ⟨c,n⟩:=ha.at (i:=0) rfl
 have o:=q2z ho (i:=0) rfl
 have f:=qdw (q1u hf (i:=0) rfl)
 have hn:=q16 a
 have hk:=o.2 (.inl rfl)
 show q7 (gQ78 [a]) (0,0)=some (sumS 0 a.items)
 exact qya a [] (by omega) fun v hv=>(c.item v hv).num_ok (by
  have:=f.2 v hv
  have:=q24 (q3g hk v hv)
  omega)
theorem qxn:Rp .nEndswith:=by
 intro l ha hb hf ho
 obtain ⟨a,b,rfl⟩:=q32 hb rfl rfl
 have c:=(ha.at (i:=0) rfl).1.str_le
 show ((gQ6d a.str b.str).bind fun y4=>(gQ81 y4).bind fun y5=>some (y5,0))=some (bV (q7x a.str b.str),0)
 rw[rends _ _ (by omega),oB_,rtruth];rfl
theorem qy2:Rp .nStartswith:=by
 intro l ha hb hf ho
 obtain ⟨a,b,rfl⟩:=q32 hb rfl rfl
 show ((gQ5m a.str b.str).bind fun y4=>(gQ81 y4).bind fun y5=>some (y5,0))=some (bV (begB a.str b.str),0)
 rw[rbegins,oB_,rtruth];rfl
theorem qxu:Rp .nLower:=by
 intro l ha hb hf ho
 obtain ⟨a,rfl⟩:=q20 hb rfl rfl
 show ((gQ5y a.str 65 90 32).bind fun y=>(gQ7q y).bind fun y=>some (y,0))=some (vText (q5g 65 90 32 a.str),0)
 rw[rcased _ _ _ _ (ha.at (i:=0) rfl).1.str_le (by decide)];rfl
theorem qy4:Rp .nUpper:=by
 intro l ha hb hf ho
 obtain ⟨a,rfl⟩:=q20 hb rfl rfl
 show ((gQ5y a.str 97 122 (-32)).bind fun y=>(gQ7q y).bind fun y=>some (y,0))=some (vText (q5g 97 122 (-32) a.str),0)
 rw[rcased _ _ _ _ (ha.at (i:=0) rfl).1.str_le (by decide)];rfl
theorem qy3:Rp .nTrim:=by
 intro l ha hb hf ho
 obtain ⟨a,rfl⟩:=q20 hb rfl rfl
 show ((gQ7w a.str).bind fun y=>(gQ7q y).bind fun y=>some (y,0))=some (vText (q6m a.str),0)
 rw[qyc _ (ha.at (i:=0) rfl).1.str_le];rfl
theorem qvx {s t:ByteArray}:∀x∈q2l s t,x.size<=s.size:=qfx t _ s
theorem qxx:Rp .nReplace:=by
 intro l ha hb hf ho
 obtain ⟨a,b,c,rfl⟩:=qab hb rfl rfl
 have s1:=(ha.at (i:=0) rfl).1.str_le
 have s3:=(ha.at (i:=2) rfl).1.str_le
 show (bif (decide (b.str=eS)) then some ((Val.mk 0 0 eS [] []),1) else (gQ7c a.str b.str).bind fun y23=>(gQ6n y23 c.str).bind fun y25=>bif (decide ((y25.size:Int) > 4096)) then some ((Val.mk 0 0 eS [] []),3) else (gQ7q y25).bind fun y27=>some (y27,0))=some (q59 a.str b.str c.str)
 unfold q59
 by_cases h:b.str=eS
 .rw[dT_ h,if_pos h];rfl
 rw[dF_ h,if_neg h,cF_,qmp _ _ s1 (qcf h),oB_]
 obtain ⟨r,r1,r2,r3,_⟩:=rjoined (q2l a.str b.str) c.str (by have:=qbx (t:=a.str) h;omega) (fun x hx=>by have:=qvx x hx;omega) s3
 rw[r1,oB_,←qwv]
 by_cases hz:(qv (q2l a.str b.str) c.str).size<=4096
 .rw[r2 hz,dF_ (show ¬((qv (q2l a.str b.str) c.str).size:Int) > 4096 by omega),if_neg (by omega)];rfl
 .have:=r3 (by omega)
  rw[dT_ (show (r.size:Int) > 4096 by omega),if_pos (by omega)];rfl
theorem qy1:Rp .nSplit:=by
 intro l ha hb hf ho
 obtain ⟨a,b,rfl⟩:=q32 hb rfl rfl
 have s2:=(ha.at (i:=1) rfl).1.str_le
 show (bif (decide (a.str=eS)) then some ((Val.mk 0 0 eS [] []),1) else (gQ7c b.str a.str).bind fun y31=>q7 (gQ7t y31) (0,[]))=some (q5b a.str b.str)
 unfold q5b
 by_cases h:a.str=eS
 .rw[dT_ h,if_pos h];rfl
 rw[dF_ h,if_neg h,cF_,qmp _ _ s2 (qcf h),oB_]
 have hl:=qbx (t:=b.str) h
 generalize q2l b.str a.str=L at hl
 refine qt (body:=gQ7t L) L (fun i (a:List Val)=>((i:Int),a)) (fun a r=>(lV (a++r.map vText),(0:Int))) (fun a r=>a.length+r.length<=5000) (a:=[]) rfl (by simp;omega) (fun a _=>?_) (fun i x r a hi hx _ hq=>?_)
 .simp only[gQ7t,dF_ (show ¬(L.length:Int)<L.length by omega),cF_,List.map_nil,List.append_nil]
 .left
  rw[lC_]at hq
  refine ⟨a++[vText x],by rw[lA_,l1_];omega,?_,by simp⟩
  simp only[gQ7t,gQ7q,dT_ (show (i:Int)<L.length by omega),cT_,q9,hx,oB_,q1k a _ (m:=80) (n:=100001) (by decide) (by omega) (by decide),qg hi (show L.length<=9223372036854775807 by omega)]
theorem qxq {l:List Val} (ha:Args l) (hb:arOk .nJoin l=true):∃s,rbr .nJoin l=some (vText s,0)/\((qv (q1b (a1 l).items) (a0 l).str).size<=4096->s=qv (q1b (a1 l).items) (a0 l).str)/\(4096<(qv (q1b (a1 l).items) (a0 l).str).size->4096<s.size)/\s.size<=140737488351232:=by
 obtain ⟨a,b,rfl⟩:=q32 hb rfl rfl
 obtain ⟨c,n⟩:=ha.at (i:=0) rfl
 obtain ⟨c2,n2⟩:=ha.at (i:=1) rfl
 have hn:=q16 b
 have hs:=c.str_le
 have hv:∀x∈q1b b.items,x.size<=4096:=fun x hx=>by
  obtain ⟨v,hv,rfl⟩:=List.mem_map.1 hx
  exact (c2.item v hv).str_le
 have hll:(q1b b.items).length=b.items.length:=by unfold q1b;rw[lM_]
 obtain ⟨r,r1,r2,r3,r4⟩:=rjoined (q1b b.items) a.str (by omega) hv hs
 have i1:idx [a,b] 1=some b:=rfl
 have hjs:=qjq a.str b.items hs (by omega) (fun v hv=>(c2.item v hv).str_le)
 refine ⟨r,?_,r2,r3,Nat.le_trans r4 hjs⟩
 show q7 (gQ7u [a,b] a) (0,[])=_
 refine qt (body:=gQ7u [a,b] a) b.items (fun i (q:List ByteArray)=>((i:Int),q)) (fun _ _=>(vText r,(0:Int))) (fun q t=>q++q1b t=q1b b.items) rfl rfl (fun q hq=>?_) (fun i x t q hi hx _ hq=>?_)
 .have hq:q=q1b b.items:=by simpa [q1b] using hq
  simp only[gQ7u,i1,oB_,dF_ (show ¬(b.items.length:Int)<(b.items.length:Int) by omega),cF_,hq,r1]
  rfl
 .left
  have hql:q.length<100001:=by
   have:=congrArg List.length hq
   simp only[q1b,lA_,lM_]at this;omega
  refine ⟨q++[x.str],by rw[←hq];simp[q1b],?_,rfl⟩
  simp only[gQ7u,i1,oB_,dT_ (show (i:Int)<(b.items.length:Int) by omega),cT_,q9,hx,q1k q x.str (m:=16) (n:=100001) (by decide) hql (by decide),qg hi (show b.items.length<=9223372036854775807 by omega)]
theorem qxj:Rp .nConcat:=by
 intro l ha hb hf ho
 have ho:q17 .nConcat l=false:=ho
 obtain ⟨a,r,rfl⟩:=q4q hb rfl
 have hl:=ha.len
 have o:=(q2z ho (i:=0) rfl).1
 have hm:∀v∈a::r,v.items.length<=400:=fun v hv=>by
  have:=q16 v
  have:=ha.nodes v hv
  omega
 have hlist:∀s,gQ70 (a::r) s=gQ21 (a::r) s:=fun _=>rfl
 show ((gQ7a a).bind fun y7=>bif y7 then (gQ86).bind fun y9=>some (y9,0) else q7 (gQ70 (a::r)) (0,[]))=some (lV ((a::r).flatMap Val.items),0)
 rw[q22,oB_,dF_ o,cF_,show gQ70 (a::r)=gQ21 (a::r) from funext hlist]
 exact qi5 (a::r) 400 hm (by omega) (by omega)
theorem qxm:Rp .nElement:=by
 intro l ha hb hf ho
 obtain ⟨a,b,rfl⟩:=q32 hb rfl rfl
 obtain ⟨c,n⟩:=ha.at (i:=0) rfl
 obtain ⟨c2,n2⟩:=ha.at (i:=1) rfl
 have f1:=q9a (q1u hf (i:=0) rfl)
 have f2:=q51 (q1u hf (i:=1) rfl)
 have hn:=q16 a
 show ((gQ6b a b).bind fun y=>some (y.1,y.2))=some (q36 a b)
 rw[q35,relement18 a b f1 (by omega) fun h6=>c2.num_ok (by omega)]
theorem qxk:Rp .nContains:=by
 intro l ha hb hf ho
 obtain ⟨a,b,rfl⟩:=q32 hb rfl rfl
 obtain ⟨c,n⟩:=ha.at (i:=0) rfl
 have hn:=q16 a
 show ((gQ7a a).bind fun y7=>bif y7 then (gQ86).bind fun y9=>some (y9,0) else (gQ61 a.items b).bind fun y17=>some (y17,0))=some (if a.kind=6 then (vU,0) else (q4g a.items b,0))
 rw[q22,oB_]
 by_cases h6:a.kind=6
 .rw[dT_ h6,if_pos h6];rfl
 .rw[dF_ h6,if_neg h6,cF_,rcontains18 _ _ (by omega) (fun x hx=>(c.item x hx).fits) (ha.at (i:=1) rfl).1.fits];rfl
theorem qxl:Rp .nDistinct:=by
 intro l ha hb hf ho
 obtain ⟨a,rfl⟩:=q20 hb rfl rfl
 obtain ⟨c,n⟩:=ha.at (i:=0) rfl
 have hn:=q16 a
 show ((gQ7a a).bind fun y7=>bif y7 then (gQ86).bind fun y9=>some (y9,0) else (gQ67 a.items).bind fun y17=>some (y17,0))=some (if a.kind=6 then (vU,0) else (q2i [] [] a.items,0))
 rw[q22,oB_]
 by_cases h6:a.kind=6
 .rw[dT_ h6,if_pos h6];rfl
 .rw[dF_ h6,if_neg h6,cF_,rdistinct18 _ (by omega) (fun x hx=>(c.item x hx).fits)];rfl
theorem qxo:Rp .nFlatten:=by
 intro l ha hb hf ho
 obtain ⟨a,rfl⟩:=q20 hb rfl rfl
 obtain ⟨c,n⟩:=ha.at (i:=0) rfl
 have hn2:q1d a.items<=400:=by rw[q6f]at n;omega
 show ((gQ7a a).bind fun y7=>bif y7 then (gQ86).bind fun y9=>some (y9,(0:Int)) else (tQb5 a.items).bind fun y21=>bif (!y21.2) then (gQ86).bind fun y23=>some (y23,0) else (gQ6x y21.1).bind fun y24=>some (y24,0))=some (if a.kind=6 then (vU,(0:Int)) else match q15 a.items with|some z=>(lV z,0)|none=>(vU,0))
 rw[q22,oB_]
 by_cases h6:a.kind=6
 .rw[dT_ h6,if_pos h6];rfl
 .rw[dF_ h6,if_neg h6,cF_,rflat18 _ (by omega),oB_]
  cases q15 a.items<;>rfl
theorem qxp:Rp .nIndex:=by
 intro l ha hb hf ho
 obtain ⟨a,b,rfl⟩:=q32 hb rfl rfl
 obtain ⟨c,n⟩:=ha.at (i:=0) rfl
 have hn:=q16 a
 show ((gQ7a a).bind fun y7=>bif y7 then (gQ86).bind fun y9=>some (y9,0) else (gQ6f a.items b).bind fun y27=>some (y27.1,y27.2))=some (if a.kind=6 then (vU,0) else q2q b 0 a.items)
 rw[q22,oB_]
 by_cases h6:a.kind=6
 .rw[dT_ h6,if_pos h6];rfl
 .rw[dF_ h6,if_neg h6,cF_,q35,rfind18 b (ha.at (i:=1) rfl).1.fits _ (by omega) (fun x hx=>(c.item x hx).fits)]
theorem qxz:Rp .nSlice:=by
 intro l ha hb hf ho
 have ho:q17 .nSlice l=false:=ho
 obtain ⟨v,a,b,rfl⟩:=qab hb rfl rfl
 obtain ⟨c,n⟩:=ha.at (i:=0) rfl
 have hn:=q16 v
 have o:=(q2z ho (i:=0) rfl).1
 show ((gQ7a v).bind fun y7=>bif y7 then (gQ86).bind fun y9=>some (y9,0) else bif (decide (a.num<0)) then some ((Val.mk 0 0 eS [] []),16) else bif (decide (b.num<a.num)) then some ((Val.mk 0 0 eS [] []),16) else bif (decide (b.num > (v.items.length:Int))) then some ((Val.mk 0 0 eS [] []),16) else (slc v.items a.num b.num).bind fun x36=>(app 80 [] x36).bind fun l38=>(gQ6x l38).bind fun y39=>some (y39,0))=some (q77 v a b)
 unfold q77
 rw[q22,oB_,dF_ o,cF_]
 by_cases h1:a.num<0
 .rw[dT_ h1,if_pos (.inl h1)];rfl
 by_cases h2:b.num<a.num
 .rw[dF_ h1,dT_ h2,if_pos (.inr (.inl h2))];rfl
 by_cases h3:b.num > (v.items.length:Int)
 .rw[dF_ h1,dF_ h2,dT_ h3,if_pos (.inr (.inr h3))];rfl
 rw[dF_ h1,dF_ h2,dF_ h3,if_neg (by omega)]
 unfold slc
 rw[if_pos (by omega)]
 simp only[cF_,oB_]
 rw[q5f (xs:=[]) (by decide) (by simp only[List.length_nil,List.length_take,List.length_drop];omega),oB_,List.nil_append];rfl
theorem qxy:Rp .nReverse:=by
 intro l ha hb hf ho
 have ho:q17 .nReverse l=false:=ho
 obtain ⟨a,rfl⟩:=q20 hb rfl rfl
 obtain ⟨c,n⟩:=ha.at (i:=0) rfl
 have hn:=q16 a
 have o:=(q2z ho (i:=0) rfl).1
 show ((gQ7a a).bind fun y7=>bif y7 then (gQ86).bind fun y9=>some (y9,0) else q7 (gQ71 a) ((IntKind.i64.wrap ((a.items.length:Int) - 1)),[]))=some (lV a.items.reverse,0)
 rw[q22,oB_,dF_ o,cF_,qy (by omega) (by omega)]
 obtain ⟨q,q1,q2⟩:=q1w (body:=gQ71 a) (fun s=>∃i:Nat,s=((i:Int) - 1,(a.items.drop i).reverse)/\i<=a.items.length) (fun s=>(s.1+1).toNat) (fun q=>q=(lV a.items.reverse,0)) (by
  rintro s ⟨i,rfl,hi⟩
  cases i with
  | zero =>
   right
   exact ⟨_,by simp only[gQ71,dF_ (show ¬((0:Nat):Int) - 1 >= 0 by omega),cF_];rfl,rfl⟩
  | succ j =>
   left
   have hx:=gE_ (show j<a.items.length by omega)
   refine ⟨((j:Int) - 1,(a.items.drop j).reverse),?_,⟨j,rfl,by omega⟩,by simp only;omega⟩
   have e:(((j+1:Nat):Int) - 1)=(j:Int):=by omega
   have ed:(a.items.drop j).reverse=(a.items.drop (j+1)).reverse++[a.items[j]]:=by rw[List.drop_eq_getElem_cons (show j<a.items.length by omega),List.reverse_cons]
   simp only[gQ71,e,dT_ (show (j:Int) >= 0 by omega),cT_,q9,hx,oB_,q1k (a.items.drop (j+1)).reverse _ (m:=80) (n:=100001) (by decide) (by rw[List.length_reverse,List.length_drop];omega) (by decide),qy (show -9223372036854775808<=(j:Int) - 1 by omega) (show (j:Int) - 1<=9223372036854775807 by omega),ed]) ((a.items.length:Int) - 1,[]) ⟨a.items.length,by rw[List.drop_length];rfl,Nat.le_refl _⟩
 rw[q1,q2]
theorem qy0:Rp .nSort:=by
 intro l ha hb hf ho
 have ho:q17 .nSort l=false:=ho
 obtain ⟨a,rfl⟩:=q20 hb rfl rfl
 obtain ⟨c,n⟩:=ha.at (i:=0) rfl
 have o:=q2z ho (i:=0) rfl
 have f:=q7y (q1u hf (i:=0) rfl)
 have hn:=q16 a
 have hs:=qna c (o.2 (.inr rfl)) f.2
 have e:a.items=(a.items.map Val.str).map strV:=by
  rw[List.map_map]
  conv=>lhs;rw[←List.map_id a.items]
  exact List.map_congr_left fun x hx=>hs x hx
 show ((gQ7a a).bind fun y7=>bif y7 then (gQ86).bind fun y9=>some (y9,0) else (gQ7f a.items).bind fun y41=>some (y41,0))=some (lV ((q2o cmpS (a.items.map Val.str)).map strV),0)
 rw[q22,oB_,dF_ o.1,cF_,rsorted _ (by omega),oB_,←qyy]
 have:=qn3 (a.items.map Val.str) []
 rw[←e]at this
 rw[←this];rfl
theorem qxr:Rp .nKeys:=by
 intro l ha hb hf ho
 obtain ⟨a,rfl⟩:=q20 hb rfl rfl
 obtain ⟨c,n⟩:=ha.at (i:=0) rfl
 have hn:=q16 a
 have hk:=qjy c
 have e:∀s,gQ7m a s=gQ2b a s:=fun _=>rfl
 show q7 (gQ7m a) (0,[])=some (lV (a.keys.map vText),0)
 rw[show gQ7m a=gQ2b a from funext e]
 exact qjz a (by omega)
theorem qy5:Rp .nValues:=by
 intro l ha hb hf ho
 obtain ⟨a,rfl⟩:=q20 hb rfl rfl
 obtain ⟨c,n⟩:=ha.at (i:=0) rfl
 have hn:=q16 a
 show ((app 80 [] a.items).bind fun l8=>(gQ6x l8).bind fun y9=>some (y9,0))=some (lV a.items,0)
 rw[q5f (xs:=[]) (by decide) (by simp only[List.length_nil];omega),oB_,List.nil_append];rfl
theorem qy6:Rp .nZipmap:=by
 intro l ha hb hf ho
 obtain ⟨a,b,rfl⟩:=q32 hb rfl rfl
 obtain ⟨c,n⟩:=ha.at (i:=0) rfl
 obtain ⟨c2,n2⟩:=ha.at (i:=1) rfl
 have f1:=q7y (q1u hf (i:=0) rfl)
 have f2:=q9a (q1u hf (i:=1) rfl)
 have hn:=q16 a
 show ((gQ88 a b).bind fun y=>some (y.1,y.2))=some (zipS a b)
 rw[q35,rzipped c c2 f1.1 f2 f1.2 (by omega)]
theorem qxv:Rp .nMerge:=by
 intro l ha hb hf ho
 have ho:q17 .nMerge l=false:=ho
 obtain ⟨a,r,rfl⟩:=q4q hb rfl
 have hl:=ha.len
 have hv:∀v∈a::r,v.keys.length=v.items.length/\v.keys.length<=400:=fun v hv=>by
  obtain ⟨i,hi⟩:=List.getElem?_of_mem hv
  have o:=q2z ho hi
  have f:=q1u hf hi
  rw[qbi rfl]at f
  have f:=qau f
  have e:=qeb (ha.ck v hv) (by omega)
  have:=q16 v
  have:=ha.nodes v hv
  exact ⟨e,by omega⟩
 exact rmerge (a::r) (by omega) hv
theorem qxt:Rp .nLookup:=by
 intro l ha hb hf ho
 have hb':=hb
 unfold arOk at hb
 rw[show (spB .nLookup).least=2 from rfl,show (spB .nLookup).most=3 from rfl]at hb
 simp only[Bool.and_eq_true,decide_eq_true_eq]at hb
 match l,hb with
 | [],hb=>simp at hb
 | [a],hb=>simp at hb
 | m::k::t,hb =>
  simp only[lC_]at hb
  obtain ⟨c,n⟩:=ha.at (i:=0) rfl
  have f:=qau (q1u hf (i:=0) rfl)
  have i2:idx (m::k::t) 2=t[0]?:=by cases t<;>rfl
  show ((gQ7a m).bind fun y22=>bif y22 then (gQ86).bind fun y24=>some (y24,0) else (gQ7a k).bind fun y26=>bif y26 then (gQ86).bind fun y28=>some (y28,0) else (gQ4d m k.str).bind fun y30=>bif y30.2 then some (y30.1,0) else bif (decide (((m::k::t).length:Int)=3)) then (idx (m::k::t) 2).bind fun x33=>some (x33,0) else some ((Val.mk 0 0 eS [] []),16))=some (q57 m k t[0]?)
  unfold q57
  rw[q22,oB_,q22]
  by_cases h6:m.kind=6
  .rw[dT_ h6,if_pos (.inl h6)];rfl
  rw[dF_ h6,cF_,oB_]
  by_cases k6:k.kind=6
  .rw[dT_ k6,if_pos (.inr k6)];rfl
  rw[dF_ k6,cF_,if_neg (fun h=>h.elim h6 k6),qsc m k.str c.fits (by omega) (qeb c (by omega)),oB_,i2]
  cases hasB m.keys k.str with
  | true=>rfl
  | false =>
   rw[cF_,cF_]
   cases t with
   | nil=>rw[dF_ (show ¬(([m,k]:List Val).length:Int)=3 by simp)];rfl
   | cons x r =>
    have:r=[]:=List.length_eq_zero_iff.1 (by simp only[lC_]at hb;omega)
    subst this;rfl
theorem qxs:Rp .nLength:=by
 intro l ha hb hf ho
 obtain ⟨a,rfl⟩:=q20 hb rfl rfl
 show ((gQ6v a).bind fun y=>some (y,0))=some (lenS a,0)
 rw[rlength18 a (ha.at (i:=0) rfl).1.str_le];rfl
theorem rtoc {k:Int} (hk:k=1\/k=2\/k=3) {v:Val} (h:Ck v):gQ4p v (Ty.mk k [] [])=some (tocS k v):=by
 unfold tocS
 by_cases h0:v.kind=0
 .rw[if_pos h0]
  have e:toS (Ty.mk k [] []) v=(v,0):=by rw[q5y,if_pos (.inr (.inl h0))]
  unfold gQ4p
  rw[qmr _ v (qcg (by omega)) h.ok,e,oB_,qam h.fits,h.ck];rfl
 .rw[if_neg h0,rTo_sc hk h h0]
theorem qfi {k:Nm} {i:Int} (h1:(spB k).least=1) (h2:(spB k).most=1) (hi:i=1\/i=2\/i=3) (hb:∀a,rbr k [a]=(gQ4p a (Ty.mk i [] [])).bind fun y=>some (y.1,y.2)) (hs:∀a,apS k [a]=tocS i a):Rp k:=by
 intro l ha har hf ho
 obtain ⟨a,rfl⟩:=q20 har h1 h2
 rw[hb,hs,q35,rtoc hi (ha.at (i:=0) rfl).1]
theorem qxi:Rp .nCoalesce:=by
 intro l ha hb hf ho
 have hl:=ha.len
 show q7 (gQ5w l) 0=some (q41 l,0)
 refine qt (body:=gQ5w l) l (fun i (_:Unit)=>(i:Int)) (fun _ r=>(q41 r,(0:Int))) (fun _ _=>True) (a:=()) rfl trivial (fun _ _=>?_) (fun i x r _ hi hx _ _=>?_)
 .simp only[gQ5w,dF_ (show ¬(l.length:Int)<l.length by omega),cF_];rfl
 .simp only[gQ5w,dT_ (show (i:Int)<l.length by omega),cT_,q9,hx,oB_,q41,qg hi (show l.length<=9223372036854775807 by omega)]
  by_cases h:x.kind=0
  .left;rw[dT_ h,if_pos h];exact ⟨(),trivial,rfl,rfl⟩
  .right;rw[dF_ h,if_neg h];rfl
theorem rp_all (k:Nm) (hj:k≠.nJoin):Rp k:=by
 cases k
 case nJoin=>exact absurd rfl hj
 case nAbs=>exact rp_abs
 case nCoalesce=>exact qxi
 case nConcat=>exact qxj
 case nContains=>exact qxk
 case nDistinct=>exact qxl
 case nElement=>exact qxm
 case nEndswith=>exact qxn
 case nFlatten=>exact qxo
 case nIndex=>exact qxp
 case nKeys=>exact qxr
 case nLength=>exact qxs
 case nLookup=>exact qxt
 case nLower=>exact qxu
 case nMax=>exact qmo (.inl rfl)
 case nMerge=>exact qxv
 case nMin=>exact qmo (.inr rfl)
 case nRange=>exact qxw
 case nReplace=>exact qxx
 case nReverse=>exact qxy
 case nSlice=>exact qxz
 case nSort=>exact qy0
 case nSplit=>exact qy1
 case nStartswith=>exact qy2
 case nSum=>exact rp_sum
 case nTobool=>exact qfi rfl rfl (.inl rfl) (fun _=>rfl) fun _=>rfl
 case nTonumber=>exact qfi rfl rfl (.inr (.inl rfl)) (fun _=>rfl) fun _=>rfl
 case nTostring=>exact qfi rfl rfl (.inr (.inr rfl)) (fun _=>rfl) fun _=>rfl
 case nTrim=>exact qy3
 case nUpper=>exact qy4
 case nValues=>exact qy5
 case nZipmap=>exact qy6
theorem qhv {s:ByteArray} (h:4096<s.size):qx (vText s)=3:=by
 have hn:qz (vText s)=3:=by
  have e:=(ql6 (x:=vText s) (by simp[q28,qe,qm,qr,qp,qn,Val.kind,Val.num,Val.str,Val.items,Val.keys])).2.1 rfl
  rw[e]
  show vtext s=3
  unfold vtext
  rw[if_pos h]
 unfold qx
 rw[q7s,if_neg (by decide),if_neg (by decide),if_pos (by rw[hn];decide),hn]
theorem qm4 {k:Nm} {l:List Val} (ha:Args l) (hb:arOk k l=true) (hf:q37 k l=true) (ho:((spB k).strict&&q17 k l)=false):∃r,rbr k l=some r/\finS r=finS (apS k l)/\r.1.Fits:=by
 by_cases hj:k=.nJoin
 .subst hj
  obtain ⟨s,r1,r2,r3,r4⟩:=qxq ha hb
  refine ⟨_,r1,?_,q6n r4⟩
  show _=finS (vText (qv (q1b (a1 l).items) (a0 l).str),0)
  by_cases h:(qv (q1b (a1 l).items) (a0 l).str).size<=4096
  .rw[r2 h]
  .unfold finS
   rw[if_pos rfl,if_pos rfl,qhv (r3 (by omega)),qhv (by omega)];rfl
 .exact ⟨_,rp_all k hj l ha hb hf ho,rfl,qgz ha hb hf ho⟩
theorem qml {r:Val×Int} (h:r.1.Fits):(bif (decide (r.2=0)) then (q2e r.1).bind fun y14=>bif (!decide (y14=0)) then some ((Val.mk 0 0 eS [] []),y14) else some (r.1,0) else some ((Val.mk 0 0 eS [] []),r.2))=some (finS r):=by
 unfold finS
 by_cases h0:r.2=0
 .rw[dT_ h0,cT_,if_pos h0,qam h,oB_]
  by_cases hc:qx r.1=0
  .rw[dT_ hc,if_pos hc];rfl
  .rw[dF_ hc,if_neg hc];rfl
 .rw[dF_ h0,cF_,if_neg h0]
theorem rar (n:ByteArray) {r:Int×Int×Bool} (h:gQ0l n=some r):gQ59 n=some r:=by
 obtain ⟨q,q1,q2⟩:=qp6 n
 rw[h]at q1
 rw[q2,Option.some.inj q1]
theorem qwf (name:ByteArray) {l:List Val} (ha:Args l):gQ5b name l=gQ0n name l:=by
 unfold gQ5b
 rcases nm_or name with ⟨k,rfl⟩|ho
 .rw[rar _ (ar_nm k),oB_]
  show (bif (!true) then _ else bif (decide ((l.length:Int)<(spB k).least)) then _ else bif (decide ((l.length:Int) > (spB k).most)) then _ else _)=_
  rw[nT_,cF_]
  by_cases hb:arOk k l=true
  .rw[qhl ha hb]
   unfold q65
   have hb2:=hb
   unfold arOk at hb2
   simp only[Bool.and_eq_true,decide_eq_true_eq]at hb2
   rw[dF_ (show ¬(l.length:Int)<(spB k).least by omega),dF_ (show ¬(l.length:Int) > (spB k).most by omega),cF_,cF_,qyd k ha,oB_]
   cases hf:q37 k l with
   | false=>rfl
   | true =>
    rw[nT_,cF_,rstrict,oB_,if_neg (by decide),qwe]
    cases hs:(spB k).strict with
    | true =>
     rw[cT_,qwd k ha hb hf,oB_,Bool.true_and]
     cases ho:q17 k l with
     | true=>rfl
     | false =>
      obtain ⟨r,r1,r2,r3⟩:=qm4 ha hb hf (by rw[hs,ho];rfl)
      rw[cF_,r1,oB_,qml r3,r2,if_neg (by decide)]
    | false =>
     obtain ⟨r,r1,r2,r3⟩:=qm4 ha hb hf (by rw[hs];rfl)
     rw[cF_,r1,oB_,qml r3,r2,Bool.false_and,if_neg (by decide)]
  .have hb':=eq_false_of_ne_true hb
   rw[qhi hb']
   unfold arOk at hb'
   by_cases c1:(l.length:Int)<(spB k).least
   .rw[dT_ c1];rfl
   .rw[dT_ (show (spB k).least<=(l.length:Int) by omega),Bool.true_and]at hb'
    have:=of_decide_eq_false hb'
    rw[dF_ c1,cF_,dT_ (show (l.length:Int) > (spB k).most by omega)];rfl
 .rw[rar _ (qp5 ho),qhj ho];rfl
theorem qtb (name:ByteArray) (args:List Val) (hf:∀v∈args,v.Fits):gQ38 name args=some true:=by
 unfold gQ38
 obtain ⟨b,h1,h2⟩:=qrg args hf
 rw[h1,oB_]
 cases b with
 | false=>rw[nF_,cT_,awake18];rfl
 | true =>
  have ha:=(h2 rfl).args
  rw[nT_,cF_,qwf name ha]
  obtain ⟨r,r1,r2,_⟩:=qq2 name ha
  obtain ⟨q,e1,e2⟩:=qmh r.1 r.1 r2
  rw[r1,oB_,oB_,dT_ rfl,cT_,e1,e2.2 rfl,oB_,cT_,awake18];rfl
end Abs
end Go.Proofs.YtagadjpmkggjdaaGreatDoor
