import Derived.Test.YtagadjpmkggjdaaGreatDoorFnZ
import Derived.Test.YtagadjpmkggjdaaGreatDoorPlBs
import Derived.Lib.SplitLaws
namespace Go.Proofs.YtagadjpmkggjdaaGreatDoor
set_option linter.unusedSimpArgs false
set_option linter.unusedVariables false
namespace Abs
open Go.RowKit
inductive Nm where
 | nAbs
 | nCoalesce
 | nConcat
 | nContains
 | nDistinct
 | nElement
 | nEndswith
 | nFlatten
 | nIndex
 | nJoin
 | nKeys
 | nLength
 | nLookup
 | nLower
 | nMax
 | nMerge
 | nMin
 | nRange
 | nReplace
 | nReverse
 | nSlice
 | nSort
 | nSplit
 | nStartswith
 | nSum
 | nTobool
 | nTonumber
 | nTostring
 | nTrim
 | nUpper
 | nValues
 | nZipmap
def nmB:Nm->ByteArray
 | .nAbs=>⟨#[97,98,115]⟩
 | .nCoalesce=>⟨#[99,111,97,108,101,115,99,101]⟩
 | .nConcat=>⟨#[99,111,110,99,97,116]⟩
 | .nContains=>⟨#[99,111,110,116,97,105,110,115]⟩
 | .nDistinct=>⟨#[100,105,115,116,105,110,99,116]⟩
 | .nElement=>⟨#[101,108,101,109,101,110,116]⟩
 | .nEndswith=>⟨#[101,110,100,115,119,105,116,104]⟩
 | .nFlatten=>⟨#[102,108,97,116,116,101,110]⟩
 | .nIndex=>⟨#[105,110,100,101,120]⟩
 | .nJoin=>⟨#[106,111,105,110]⟩
 | .nKeys=>⟨#[107,101,121,115]⟩
 | .nLength=>⟨#[108,101,110,103,116,104]⟩
 | .nLookup=>⟨#[108,111,111,107,117,112]⟩
 | .nLower=>⟨#[108,111,119,101,114]⟩
 | .nMax=>⟨#[109,97,120]⟩
 | .nMerge=>⟨#[109,101,114,103,101]⟩
 | .nMin=>⟨#[109,105,110]⟩
 | .nRange=>⟨#[114,97,110,103,101]⟩
 | .nReplace=>⟨#[114,101,112,108,97,99,101]⟩
 | .nReverse=>⟨#[114,101,118,101,114,115,101]⟩
 | .nSlice=>⟨#[115,108,105,99,101]⟩
 | .nSort=>⟨#[115,111,114,116]⟩
 | .nSplit=>⟨#[115,112,108,105,116]⟩
 | .nStartswith=>⟨#[115,116,97,114,116,115,119,105,116,104]⟩
 | .nSum=>⟨#[115,117,109]⟩
 | .nTobool=>⟨#[116,111,98,111,111,108]⟩
 | .nTonumber=>⟨#[116,111,110,117,109,98,101,114]⟩
 | .nTostring=>⟨#[116,111,115,116,114,105,110,103]⟩
 | .nTrim=>⟨#[116,114,105,109]⟩
 | .nUpper=>⟨#[117,112,112,101,114]⟩
 | .nValues=>⟨#[118,97,108,117,101,115]⟩
 | .nZipmap=>⟨#[122,105,112,109,97,112]⟩
def spB:Nm->SpecG
 | .nAbs=>SpecG.mk ⟨#[110]⟩ 1 1 true
 | .nCoalesce=>SpecG.mk ⟨#[97]⟩ 1 64 false
 | .nConcat=>SpecG.mk ⟨#[108]⟩ 1 64 true
 | .nContains=>SpecG.mk ⟨#[108,97]⟩ 2 2 false
 | .nDistinct=>SpecG.mk ⟨#[108]⟩ 1 1 false
 | .nElement=>SpecG.mk ⟨#[108,110]⟩ 2 2 false
 | .nEndswith=>SpecG.mk ⟨#[115,115]⟩ 2 2 true
 | .nFlatten=>SpecG.mk ⟨#[108]⟩ 1 1 false
 | .nIndex=>SpecG.mk ⟨#[108,97]⟩ 2 2 false
 | .nJoin=>SpecG.mk ⟨#[115,83]⟩ 2 2 true
 | .nKeys=>SpecG.mk ⟨#[109]⟩ 1 1 true
 | .nLength=>SpecG.mk ⟨#[99]⟩ 1 1 true
 | .nLookup=>SpecG.mk ⟨#[109,115,97]⟩ 2 3 false
 | .nLower=>SpecG.mk ⟨#[115]⟩ 1 1 true
 | .nMax=>SpecG.mk ⟨#[110]⟩ 1 64 true
 | .nMerge=>SpecG.mk ⟨#[109]⟩ 1 64 true
 | .nMin=>SpecG.mk ⟨#[110]⟩ 1 64 true
 | .nRange=>SpecG.mk ⟨#[110]⟩ 1 2 true
 | .nReplace=>SpecG.mk ⟨#[115,115,115]⟩ 3 3 true
 | .nReverse=>SpecG.mk ⟨#[108]⟩ 1 1 true
 | .nSlice=>SpecG.mk ⟨#[108,110,110]⟩ 3 3 true
 | .nSort=>SpecG.mk ⟨#[83]⟩ 1 1 true
 | .nSplit=>SpecG.mk ⟨#[115,115]⟩ 2 2 true
 | .nStartswith=>SpecG.mk ⟨#[115,115]⟩ 2 2 true
 | .nSum=>SpecG.mk ⟨#[78]⟩ 1 1 true
 | .nTobool=>SpecG.mk ⟨#[97]⟩ 1 1 false
 | .nTonumber=>SpecG.mk ⟨#[97]⟩ 1 1 false
 | .nTostring=>SpecG.mk ⟨#[97]⟩ 1 1 false
 | .nTrim=>SpecG.mk ⟨#[115]⟩ 1 1 true
 | .nUpper=>SpecG.mk ⟨#[115]⟩ 1 1 true
 | .nValues=>SpecG.mk ⟨#[109]⟩ 1 1 true
 | .nZipmap=>SpecG.mk ⟨#[83,108]⟩ 2 2 false
theorem qdv (k:Nm):gQ1b (nmB k)=some (spB k,true):=by cases k<;>rfl
theorem qiu {n:ByteArray} (h:∀k,n≠nmB k):gQ1b n=some (SpecG.mk eS 0 0 false,false):=by
 unfold gQ1b
 have h0:=h .nAbs
 have h1:=h .nCoalesce
 have h2:=h .nConcat
 have h3:=h .nContains
 have h4:=h .nDistinct
 have h5:=h .nElement
 have h6:=h .nEndswith
 have h7:=h .nFlatten
 have h8:=h .nIndex
 have h9:=h .nJoin
 have h10:=h .nKeys
 have h11:=h .nLength
 have h12:=h .nLookup
 have h13:=h .nLower
 have h14:=h .nMax
 have h15:=h .nMerge
 have h16:=h .nMin
 have h17:=h .nRange
 have h18:=h .nReplace
 have h19:=h .nReverse
 have h20:=h .nSlice
 have h21:=h .nSort
 have h22:=h .nSplit
 have h23:=h .nStartswith
 have h24:=h .nSum
 have h25:=h .nTobool
 have h26:=h .nTonumber
 have h27:=h .nTostring
 have h28:=h .nTrim
 have h29:=h .nUpper
 have h30:=h .nValues
 have h31:=h .nZipmap
 simp only[nmB]at h0 h1 h2 h3 h4 h5 h6 h7 h8 h9 h10 h11 h12 h13 h14 h15 h16 h17 h18 h19 h20 h21 h22 h23 h24 h25 h26 h27 h28 h29 h30 h31
 simp only[h0,h1,h2,h3,h4,h5,h6,h7,h8,h9,h10,h11,h12,h13,h14,h15,h16,h17,h18,h19,h20,h21,h22,h23,h24,h25,h26,h27,h28,h29,h30,h31,decide_false,cF_]
theorem nm_or (n:ByteArray):(∃k,n=nmB k)\/∀k,n≠nmB k:=by
 by_cases h:∃k,n=nmB k
 .exact .inl h
 .exact .inr fun k e=>h ⟨k,e⟩
structure Args (l:List Val):Prop where
 len:l.length<=70
 ck:∀v∈l,Ck v
 nodes:∀v∈l,q2k v<=400
def isK (v:Val) (ks:List Int):Bool:=(ks.any fun k=>decide (v.kind=k)) || decide (v.kind=6)
theorem q6x (v:Val) (ks:List Int) (hl:ks.length<=1000):gQ1q v ks=some (isK v ks):=by
 unfold gQ1q
 refine qt ks (fun i (_:Unit)=>(i:Int)) (fun _ r=>(r.any fun k=>decide (v.kind=k)) || decide (v.kind=6)) (fun _ _=>True) (a:=()) rfl trivial (fun _ _=>?_) (fun i x r _ hi hx _ _=>?_)
 .simp only[gQ1r,dF_ (show ¬(ks.length:Int)<ks.length by omega),cF_,List.any_nil,Bool.false_or]
 .simp only[gQ1r,dT_ (show (i:Int)<ks.length by omega),cT_,q9,hx,oB_,List.any_cons]
  by_cases h:v.kind=x
  .right;rw[dT_ h];rfl
  .left
   rw[dF_ h,cF_,qg hi (by omega)]
   exact ⟨(),trivial,rfl,rfl⟩
def allK (v:Val) (k:Int):Bool:=isK v [4]&&v.items.all fun x=>isK x [k]
theorem qo9 (v:Val) (k:Int) (hl:v.items.length<=9223372036854775807):gQ0u v k=some (allK v k):=by
 unfold gQ0u allK
 rw[q6x v [4] (by decide),oB_]
 cases isK v [4] with
 | false=>rfl
 | true =>
  rw[nT_,cF_,Bool.true_and]
  refine qt v.items (fun i (_:Unit)=>(i:Int)) (fun _ r=>r.all fun x=>isK x [k]) (fun _ _=>True) (a:=()) rfl trivial (fun _ _=>?_) (fun i x r _ hi hx _ _=>?_)
  .simp only[gQ0v,dF_ (show ¬(v.items.length:Int)<v.items.length by omega),cF_,List.all_nil]
  .simp only[gQ0v,dT_ (show (i:Int)<v.items.length by omega),cT_,q9,hx,oB_,List.all_cons,q6x x [k] (by simp)]
   cases isK x [k] with
   | false=>right;rfl
   | true =>
    left
    rw[nT_,cF_,qg hi hl]
    exact ⟨(),trivial,rfl,rfl⟩
def fitK (v:Val) (c:Int):Bool :=
 if c=110 then isK v [2] else if c=115 then isK v [3] else if c=108 then isK v [4] else if c=109 then isK v [5] else if c=78 then allK v 2 else if c=83 then allK v 3 else if c=99 then isK v [3,4,5] else true
theorem qrj (v:Val) (c:Int) (hl:v.items.length<=9223372036854775807):gQ1d v c=some (fitK v c):=by
 unfold gQ1d fitK
 simp only[q6x v [2] (by decide),q6x v [3] (by decide),q6x v [4] (by decide),q6x v [5] (by decide),q6x v [3,4,5] (by decide),qo9 v _ hl,oB_]
 by_cases h1:c=110
 .rw[dT_ h1,if_pos h1];rfl
 rw[dF_ h1,if_neg h1,cF_]
 by_cases h2:c=115
 .rw[dT_ h2,if_pos h2];rfl
 rw[dF_ h2,if_neg h2,cF_]
 by_cases h3:c=108
 .rw[dT_ h3,if_pos h3];rfl
 rw[dF_ h3,if_neg h3,cF_]
 by_cases h4:c=109
 .rw[dT_ h4,if_pos h4];rfl
 rw[dF_ h4,if_neg h4,cF_]
 by_cases h5:c=78
 .rw[dT_ h5,if_pos h5];rfl
 rw[dF_ h5,if_neg h5,cF_]
 by_cases h6:c=83
 .rw[dT_ h6,if_pos h6];rfl
 rw[dF_ h6,if_neg h6,cF_]
 by_cases h7:c=99
 .rw[dT_ h7,if_pos h7];rfl
 rw[dF_ h7,if_neg h7,cF_]
def lett (k:Nm) (i:Nat):Int:=(((spB k).kinds.data.toList.getD (min i ((spB k).kinds.size - 1)) 0).toNat:Nat)
theorem qk4 (k:Nm):1<=(spB k).kinds.size/\(spB k).kinds.size<=3:=by cases k<;>exact ⟨by decide,by decide⟩
theorem qkg (k:Nm) (i:Nat) (hi:i<=1000):gQ2q (spB k) (i:Int)=some (lett k i):=by
 obtain ⟨h1,h2⟩:=qk4 k
 unfold gQ2q lett
 generalize (spB k).kinds=s at h1 h2
 have hw:IntKind.i64.wrap ((s.size:Int) - 1)=((s.size - 1:Nat):Int):=by rw[qy (by omega) (by omega)];omega
 rw[hw]
 have hm:(if ((s.size - 1:Nat):Int)<(i:Int) then ((s.size - 1:Nat):Int) else (i:Int))=((min i (s.size - 1):Nat):Int):=by split<;>omega
 have hlt:min i (s.size - 1)<s.size:=by omega
 rw[hm,qfp hlt,oB_,List.getD_eq_getElem?_getD,gE_ (by simpa using hlt)]
 rfl
open Classical in
theorem qt5 (x:Val):tQbb x=gQ9o (gQ9p (fun a0=>if relV a0 x then tQbb a0 else none)) x:=q30 x ()
open Classical in
theorem qef (x:Val):x.Fits->tQbb x=some (qc x):=by
 induction x using wfV.induction with
 | h x ih =>
  intro hf
  obtain ⟨f1,f2,f3,f4,f5,f6,f7⟩:=hf.parts
  have hn:=q2b f4 (by decide)
  rw[qt5,q87]
  unfold gQ9o
  by_cases h6:x.kind=6
  .rw[dT_ h6];simp[h6]
  rw[dF_ h6,nF_,cT_]
  obtain ⟨n,h1,h2⟩:=qtt x.items (fun v=>!qc v) (body:=gQ9v (gQ9p fun a0=>if relV a0 x then tQbb a0 else none) x.items) (by omega) (fun i y hi hy=>by
   have hm:y∈x.items:=List.mem_of_getElem? hy
   simp only[gQ9v,dT_ (show (i:Int)<x.items.length by omega),cT_,q9,hy,oB_,gQ9p,if_pos (show relV y x from hm),ih y hm (f7 y hm)]
   cases qc y<;>rfl) (by simp[gQ9v])
  unfold gQ9s gQ9u
  rw[h1,oB_,oB_,h2]
  congr 1
  simp only[ne_eq,h6,not_false_eq_true,decide_true,Bool.true_and]
  rw[List.not_any_eq_all_not];simp
def q17 (k:Nm) (l:List Val):Bool:=l.zipIdx.any fun p=>decide (p.1.kind=6) || ((decide (lett k p.2=78) || decide (lett k p.2=83))&&!qc p.1)
theorem qvg (k:Nm) (l:List Val) (hl:l.length<=1000) (hf:∀v∈l,v.Fits):gQ2s (spB k) l=some (q17 k l):=by
 unfold gQ2s q17
 have:=qt (body:=gQ2t (spB k) l) l.zipIdx (fun i (_:Unit)=>(i:Int)) (fun _ r=>r.any fun p=>decide (p.1.kind=6) || ((decide (lett k p.2=78) || decide (lett k p.2=83))&&!qc p.1)) (fun _ _=>True) (s0:=0) (a:=()) rfl trivial (fun _ _=>?_) (fun i x r _ hi hx _ _=>?_)
 .exact this
 .simp only[gQ2t,List.length_zipIdx,dF_ (show ¬(l.length:Int)<l.length by omega),cF_,List.any_nil]
 .rw[List.length_zipIdx]at hi
  rw[List.getElem?_zipIdx,gE_ hi]at hx
  simp only[Option.map_some,Nat.zero_add,Option.some.injEq]at hx
  subst hx
  have hm:=hf _ (List.getElem_mem hi)
  simp only[gQ2t,dT_ (show (i:Int)<l.length by omega),cT_,q9,gE_ hi,oB_,List.any_cons,qkg k i (by omega),qef _ hm,qg hi (show l.length<=9223372036854775807 by omega)]
  by_cases h6:l[i].kind=6
  .right;rw[dT_ h6];rfl
  rw[dF_ h6,cF_,Bool.false_or]
  by_cases h1:lett k i=78
  .rw[dT_ h1,cT_,Bool.true_or,Bool.true_and]
   cases qc l[i] with
   | false=>right;rfl
   | true=>left;exact ⟨(),trivial,rfl,rfl⟩
  rw[dF_ h1,cF_,Bool.false_or]
  by_cases h2:lett k i=83
  .rw[dT_ h2,cT_,Bool.true_and]
   cases qc l[i] with
   | false=>right;rfl
   | true=>left;exact ⟨(),trivial,rfl,rfl⟩
  rw[dF_ h2,cF_,Bool.false_and]
  left;exact ⟨(),trivial,rfl,rfl⟩
def q37 (k:Nm) (l:List Val):Bool:=l.zipIdx.all fun p=>fitK p.1 (lett k p.2)
noncomputable def finS (r:Val×Int):Val×Int:=if r.2=0 then (if qx r.1=0 then (r.1,0) else (vZ,qx r.1)) else (vZ,r.2)
theorem qam {v:Val} (h:v.Fits):q2e v=some (qx v):=q1v h
theorem cpy_of {v:Val} (h:v.Fits):cpy v=some v:=q1v h
theorem qit {O:Type} {r:Val×Int} (h:r.1.Fits) (f:Val×Int->O) :
  (bif (decide (r.2=0)) then (q2e r.1).bind fun y16=>bif (!decide (y16=0)) then some (f ((Val.mk 0 0 eS [] []),y16)) else (cpy r.1).bind fun y18=>some (f (y18,0)) else some (f ((Val.mk 0 0 eS [] []),r.2)))=some (f (finS r)):=by
 unfold finS
 by_cases h0:r.2=0
 .rw[dT_ h0,cT_,if_pos h0,qam h,oB_,cpy_of h,oB_]
  by_cases hc:qx r.1=0
  .rw[dT_ hc,if_pos hc];rfl
  .rw[dF_ hc,if_neg hc];rfl
 .rw[dF_ h0,cF_,if_neg h0]
def arOk (k:Nm) (l:List Val):Bool:=decide ((spB k).least<=l.length)&&decide ((l.length:Int)<=(spB k).most)
theorem qhj {n:ByteArray} (h:∀k,n≠nmB k) (l:List Val):gQ0n n l=some (vZ,17):=by
 unfold gQ0n
 rw[qiu h];rfl
theorem qhi {k:Nm} {l:List Val} (h:arOk k l=false):gQ0n (nmB k) l=some (vZ,18):=by
 unfold gQ0n
 rw[qdv,oB_]
 show (bif (!true) then _ else bif (decide ((l.length:Int)<(spB k).least)) then _ else bif (decide ((l.length:Int) > (spB k).most)) then _ else _)=_
 rw[nT_,cF_]
 unfold arOk at h
 by_cases h1:(l.length:Int)<(spB k).least
 .rw[dT_ h1,cT_]
 .rw[dF_ h1,cF_,dT_ (show (l.length:Int) > (spB k).most by
   rw[dT_ (show (spB k).least<=l.length by omega),Bool.true_and]at h
   have:=of_decide_eq_false h;omega),cT_]
theorem qq3 {k:Nm} {l:List Val} (ha:Args l) (h:arOk k l=true) (hap:q37 k l=true->((spB k).strict&&q17 k l)=false->∃r,gQ0x (nmB k) l=some r/\r.1.Fits) :
  gQ0n (nmB k) l=some (if q37 k l=false then (vZ,6) else if ((spB k).strict&&q17 k l)=true then (vU,0) else finS ((gQ0x (nmB k) l).getD (vZ,0))):=by
 unfold gQ0n
 rw[qdv,oB_]
 show (bif (!true) then _ else bif (decide ((l.length:Int)<(spB k).least)) then _ else bif (decide ((l.length:Int) > (spB k).most)) then _ else q7 (gQ0o (nmB k) l (spB k,true)) 0)=_
 unfold arOk at h
 simp only[Bool.and_eq_true,decide_eq_true_eq]at h
 rw[nT_,cF_,dF_ (show ¬(l.length:Int)<(spB k).least by omega),cF_,dF_ (show ¬(l.length:Int) > (spB k).most by omega),cF_]
 have hlen:=ha.len
 have hff:∀v∈l,v.Fits:=fun v hv=>(ha.ck v hv).ok.1
 have:=qt (body:=gQ0o (nmB k) l (spB k,true)) l.zipIdx (fun i (_:Unit)=>(i:Int))
  (fun _ r=>if (r.all fun p=>fitK p.1 (lett k p.2))=false then (vZ,6) else if ((spB k).strict&&q17 k l)=true then (vU,0) else finS ((gQ0x (nmB k) l).getD (vZ,0)))
  (fun _ r=>(r.all fun p=>fitK p.1 (lett k p.2))=true->q37 k l=true) (s0:=0) (a:=()) rfl (fun h=>h) (fun _ hq=>?_) (fun i x r _ hi hx _ hq=>?_)
 .exact this
 .have hfa:=hq rfl
  rw[if_neg (by simp)]
  simp only[gQ0o,List.length_zipIdx,dF_ (show ¬(l.length:Int)<l.length by omega),cF_,qvg k l (by omega) hff,oB_]
  cases hs:(spB k).strict with
  | false =>
   obtain ⟨r,h1,h2⟩:=hap hfa (by rw[hs];rfl)
   rw[cF_,h1,oB_,qit h2 (fun z=>Sum.inr z),Bool.false_and,if_neg (by decide)];rfl
  | true =>
   rw[cT_,Bool.true_and]
   cases ho:q17 k l with
   | true=>rfl
   | false =>
    obtain ⟨r,h1,h2⟩:=hap hfa (by rw[hs,ho];rfl)
    rw[cF_,h1,oB_,qit h2 (fun z=>Sum.inr z),if_neg (by decide)];rfl
 .rw[List.length_zipIdx]at hi
  rw[List.getElem?_zipIdx,gE_ hi]at hx
  simp only[Option.map_some,Nat.zero_add,Option.some.injEq]at hx
  subst hx
  have hm:=hff _ (List.getElem_mem hi)
  have hil:=(hm.parts).2.2.2.1
  simp only[gQ0o,dT_ (show (i:Int)<l.length by omega),cT_,q9,gE_ hi,oB_,qkg k i (by omega),qrj l[i] _ (by omega),qg hi (show l.length<=9223372036854775807 by omega),List.all_cons]at hq ⊢
  by_cases hb:fitK l[i] (lett k i)=true
  .left
   rw[hb,Bool.true_and]at hq
   simp only[hb,nT_,cF_,Bool.true_and]
   exact ⟨(),hq,trivial,trivial⟩
  .right
   simp only[eq_false_of_ne_true hb,nF_,cT_,Bool.false_and,if_true]
open Go.RowKit
mutual
/-- Are two values decidedly different? -/
def difV:Val->Val->Bool
 | .mk k n s items keys,b=>if k=6\/b.kind=6 then false else if k≠b.kind\/n≠b.num\/s≠b.str\/items.length≠b.items.length\/keys≠b.keys then true else difL items b.items
def difL:List Val->List Val->Bool
 | [],_=>false
 | x::r,l=>match l with
  | []=>false
  | y::t=>difV x y || difL r t
end
theorem q7u (a b:Val):difV a b=if a.kind=6\/b.kind=6 then false else if a.kind≠b.kind\/a.num≠b.num\/a.str≠b.str\/a.items.length≠b.items.length\/a.keys≠b.keys then true else difL a.items b.items:=by
 cases a;rw[difV];rfl
theorem qdn (l:List Val):difL [] l=false:=by rw[difL]
theorem difL_nil' (l:List Val):difL l []=false:=by cases l<;>rw[difL]
theorem qdm (x y:Val) (r t:List Val):difL (x::r) (y::t)=(difV x y || difL r t):=by rw[difL]
theorem q98:∀{l m:List Val},difL l m=true↔∃(i:Nat) (x y:Val),l[i]?=some x/\m[i]?=some y/\difV x y=true
 | [],m=>by rw[qdn];simp
 | x::r,[]=>by rw[difL_nil'];simp
 | x::r,y::t=>by
  rw[qdm,Bool.or_eq_true,q98]
  constructor
  .rintro (h|⟨i,a,b,h1,h2,h3⟩)
   .exact ⟨0,x,y,rfl,rfl,h⟩
   .exact ⟨i+1,a,b,by simpa using h1,by simpa using h2,h3⟩
  .rintro ⟨i,a,b,h1,h2,h3⟩
   cases i with
   | zero=>simp at h1 h2;subst h1;subst h2;exact .inl h3
   | succ i=>exact .inr ⟨i,a,b,by simpa using h1,by simpa using h2,h3⟩
theorem qqt (a:Val):∀b,difV a b=difV b a:=by
 induction a using wfV.induction with
 | h a ih =>
  intro b
  rw[q7u,q7u b a]
  by_cases h6:a.kind=6\/b.kind=6
  .rw[if_pos h6,if_pos h6.symm]
  have h6':¬(b.kind=6\/a.kind=6):=fun h=>h6 h.symm
  rw[if_neg h6,if_neg h6']
  by_cases hm:a.kind≠b.kind\/a.num≠b.num\/a.str≠b.str\/a.items.length≠b.items.length\/a.keys≠b.keys
  .rw[if_pos hm,if_pos (by simp only[ne_eq,eq_comm]at hm ⊢;exact hm)]
  rw[if_neg hm,if_neg (by simp only[ne_eq,eq_comm]at hm ⊢;exact hm),Bool.eq_iff_iff,q98,q98]
  constructor
  .rintro ⟨i,x,y,h1,h2,h3⟩
   exact ⟨i,y,x,h2,h1,by rw[←ih x (List.mem_of_getElem? h1) y];exact h3⟩
  .rintro ⟨i,x,y,h1,h2,h3⟩
   exact ⟨i,y,x,h2,h1,by rw[ih y (List.mem_of_getElem? h2) x];exact h3⟩
open Classical in
/-- Are two values decidedly equal? -/
noncomputable def qu (a b:Val):Bool:=decide (a=b)&&qc a
theorem q62 {a b:Val}:qu a b=true↔a=b/\qc a=true:=by unfold qu;simp
theorem qqu (a:Val):difV a a=false:=by
 induction a using wfV.induction with
 | h a ih =>
  rw[q7u]
  split
  .rfl
  rw[if_neg (by simp)]
  cases h:difL a.items a.items with
  | false=>rfl
  | true =>
   obtain ⟨i,x,y,h1,h2,h3⟩:=q98.1 h
   rw[h1]at h2
   obtain rfl:=Option.some.inj h2
   rw[ih x (List.mem_of_getElem? h1)]at h3;cases h3
theorem qqv (a:Val):∀b,qc a=true->qc b=true->difV a b=false->a=b:=by
 induction a using wfV.induction with
 | h a ih =>
  intro b ha hb h
  have ka:=q24 ha
  have kb:=q24 hb
  rw[q7u,if_neg (by omega)]at h
  split at h
  .cases h
  .rename_i hm
   have h1:a.kind=b.kind:=Classical.not_not.1 fun q=>hm (.inl q)
   have h2:a.num=b.num:=Classical.not_not.1 fun q=>hm (.inr (.inl q))
   have h3:a.str=b.str:=Classical.not_not.1 fun q=>hm (.inr (.inr (.inl q)))
   have h4:a.items.length=b.items.length:=Classical.not_not.1 fun q=>hm (.inr (.inr (.inr (.inl q))))
   have h5:a.keys=b.keys:=Classical.not_not.1 fun q=>hm (.inr (.inr (.inr (.inr q))))
   refine q8m h1 h2 h3 (qbj h4 fun i hi=>?_) h5
   have hib:i<b.items.length:=by omega
   rw[gE_ hi,gE_ hib]
   refine congrArg some (ih _ (List.getElem_mem hi) _ (q3g ha _ (List.getElem_mem hi)) (q3g hb _ (List.getElem_mem hib)) ?_)
   cases hd:difV a.items[i] b.items[i] with
   | false=>rfl
   | true=>rw[q98.2 ⟨i,_,_,gE_ hi,gE_ hib,hd⟩]at h;cases h
theorem qo7 {a b:Val} (h:qu a b=true):difV a b=false:=by
 obtain ⟨rfl,_⟩:=q62.1 h
 exact qqu a
theorem qo6 (a b:Val):qu a b=qu b a:=by
 rw[Bool.eq_iff_iff,q62,q62]
 constructor
 .rintro ⟨rfl,h⟩;exact ⟨rfl,h⟩
 .rintro ⟨rfl,h⟩;exact ⟨rfl,h⟩
theorem qcr {a b:Val} (ha:qc a=true) (hb:qc b=true):qu a b=!difV a b:=by
 cases hd:difV a b with
 | false=>rw[q62.2 ⟨qqv a b ha hb hd,ha⟩];rfl
 | true =>
  cases h:qu a b with
  | false=>rfl
  | true=>rw[qo7 h]at hd;cases hd
theorem qcs (a b:Val) (hf:a.Fits):gQ0s a b=some (qu a b):=by
 unfold gQ0s
 obtain ⟨q,h1,h2⟩:=qzv a b hf
 rw[h1,oB_,qef a hf]
 cases q with
 | true =>
  rw[cT_,oB_]
  obtain rfl:=h2.1 rfl
  congr 1
  rw[Bool.eq_iff_iff,q62];simp
 | false =>
  rw[cF_]
  cases h:qu a b with
  | false=>rfl
  | true=>have:=h2.2 (q62.1 h).1;cases this
open Classical in
theorem qzq (a b:Val):tQak a b=gQ30 (fun a0 a1=>if relV a0 a then tQak a0 a1 else none) a b:=q30 a b
open Classical in
theorem qgb (a:Val):∀b:Val,a.Fits->tQak a b=some (difV a b):=by
 induction a using wfV.induction with
 | h a ih =>
  intro b hf
  obtain ⟨f1,f2,f3,f4,f5,f6,f7⟩:=hf.parts
  have hn:=q2b f4 (by decide)
  have hk:=q2b f5 (by decide)
  rw[qzq,q7u]
  unfold gQ30
  by_cases h1:a.kind=6
  .rw[dT_ h1,if_pos (.inl h1)];rfl
  rw[dF_ h1,cF_]
  by_cases h2:b.kind=6
  .rw[dT_ h2,if_pos (.inr h2)];rfl
  rw[dF_ h2,cF_,if_neg (by omega)]
  by_cases h3:a.kind=b.kind
  .rw[dT_ h3,nT_,cF_]
   by_cases h4:a.num=b.num
   .rw[dT_ h4,nT_,cF_]
    by_cases h5:a.str=b.str
    .rw[dT_ h5,nT_,cF_]
     by_cases h7:a.items.length=b.items.length
     .rw[dT_ (show (a.items.length:Int)=b.items.length by omega),nT_,cF_,qio _ _ (by omega),oB_]
      by_cases h8:a.keys=b.keys
      .rw[dT_ h8,nT_,cF_,if_neg (by simp[h3,h4,h5,h7,h8])]
       refine qt a.items (fun i (_:Unit)=>(i:Int)) (fun _ r=>difL r (b.items.drop (a.items.length-r.length))) (a:=()) (fun _ r=>r.length<=a.items.length/\∀y∈r,y∈a.items) rfl ⟨Nat.le_refl _,fun _ h=>h⟩ (fun _ _=>?_) (fun i x r _ hi hx hd hq=>?_) |>.trans (by rw[Nat.sub_self,List.drop_zero])
       .simp only[gQ31,dF_ (show ¬(a.items.length:Int)<a.items.length by omega),cF_,qdn]
       .have hib:i<b.items.length:=by omega
        have hr:a.items.length-(x::r).length=i:=by
         have:=congrArg List.length hd
         rw[List.length_drop]at this;omega
        have hr':a.items.length-r.length=i+1:=by rw[lC_]at hr;have:=hq.1;rw[lC_]at this;omega
        have hm:x∈a.items:=List.mem_of_getElem? hx
        rw[hr,hr',List.drop_eq_getElem_cons hib,qdm]
        simp only[gQ31,dT_ (show (i:Int)<a.items.length by omega),cT_,q9,hx,gE_ hib,oB_,if_pos (show relV x a from hm),ih x hm _ (f7 x hm),qg hi (show a.items.length<=9223372036854775807 by omega)]
        cases difV x b.items[i] with
        | true=>right;rfl
        | false =>
         left
         exact ⟨(),⟨by have:=hq.1;rw[lC_]at this;omega,fun y hy=>hq.2 y (mC_ _ hy)⟩,rfl,by rw[Bool.false_or]⟩
      .rw[dF_ h8,nF_,cT_,if_pos (.inr (.inr (.inr (.inr h8))))]
     .rw[dF_ (show ¬(a.items.length:Int)=b.items.length by omega),nF_,cT_,if_pos (.inr (.inr (.inr (.inl h7))))]
    .rw[dF_ h5,nF_,cT_,if_pos (.inr (.inr (.inl h5)))]
   .rw[dF_ h4,nF_,cT_,if_pos (.inr (.inl h4))]
  .rw[dF_ h3,nF_,cT_,if_pos (.inl h3)]
noncomputable def q4g (l:List Val) (v:Val):Val:=bif (l.any fun x=>qu x v) then bV true else bif (l.all fun x=>difV x v) then bV false else vU
theorem qql (l:List Val) (v:Val) (hl:l.length<=140737488351232) (hf:∀x∈l,x.Fits):gQ0z l v=some (q4g l v):=by
 unfold gQ0z
 have:=qt (body:=gQ10 l v) l (fun i (a:Bool)=>((i:Int),a)) (fun a r=>bif (r.any fun x=>qu x v) then bV true else bif (a&&r.all fun x=>difV x v) then bV false else vU) (fun _ r=>∀x∈r,x.Fits) (s0:=(0,true)) (a:=true) rfl hf (fun a _=>?_) (fun i x r a hi hx _ hq=>?_)
 .rw[this];unfold q4g;rw[Bool.true_and]
 .simp only[gQ10,dF_ (show ¬(l.length:Int)<l.length by omega),cF_,List.any_nil,List.all_nil,Bool.and_true]
  cases a<;>rfl
 .have hx':=hq x mS_
  simp only[gQ10,dT_ (show (i:Int)<l.length by omega),cT_,q9,hx,oB_,qcs x v hx',qgb x v hx',List.any_cons,List.all_cons,qg hi (show l.length<=9223372036854775807 by omega)]
  cases qu x v with
  | true=>right;rfl
  | false =>
   left
   refine ⟨a&&difV x v,fun y hy=>hq y (mC_ _ hy),?_,by rw[Bool.false_or,Bool.and_assoc]⟩
   rw[cF_]
   cases a<;>rfl
noncomputable def q2q (v:Val):Nat->List Val->Val×Int
 | _,[]=>(vZ,16)
 | i,x::r=>bif qu x v then (vNum i,0) else bif difV x v then q2q v (i+1) r else (vU,0)
theorem qay (v:Val) (i:Nat) (x:Val) (r:List Val):q2q v i (x::r)=bif qu x v then (vNum i,0) else bif difV x v then q2q v (i+1) r else (vU,0):=by rw[q2q]
theorem qs4 (l:List Val) (v:Val) (hl:l.length<=140737488351232) (hf:∀x∈l,x.Fits) :
  ((gQ1k l v).bind fun y14=>bif (!y14.2) then (gQa7).bind fun y16=>some (y16,(0:Int)) else bif (decide (y14.1<0)) then some ((Val.mk 0 0 eS [] []),16) else (gQa3 y14.1).bind fun y18=>some (y18,0))=some (q2q v 0 l):=by
 have key:∃q,gQ1k l v=some q/\(bif (!q.2) then (gQa7).bind fun y16=>some (y16,(0:Int)) else bif (decide (q.1<0)) then some ((Val.mk 0 0 eS [] []),16) else (gQa3 q.1).bind fun y18=>some (y18,0))=some (q2q v 0 l):=by
  unfold gQ1k
  refine q1w (fun s=>∃i:Nat,s=(i:Int)/\i<=l.length/\q2q v i (l.drop i)=q2q v 0 l) (fun s=>l.length-s.toNat) (fun (q:Int×Bool)=>(bif (!q.2) then (gQa7).bind fun y16=>some (y16,(0:Int)) else bif (decide (q.1<0)) then some ((Val.mk 0 0 eS [] []),16) else (gQa3 q.1).bind fun y18=>some (y18,0))=some (q2q v 0 l)) ?_ 0 ⟨0,rfl,Nat.zero_le _,by simp⟩
  rintro s ⟨i,rfl,hi,hs⟩
  rcases Nat.eq_or_lt_of_le hi with h0|h0
  .refine .inr ⟨(-1,true),?_,?_⟩
   .simp only[gQ1l,dF_ (show ¬(i:Int)<l.length by omega),cF_]
   .rw[h0,List.drop_length]at hs
    rw[←hs];rfl
  .have hx:=gE_ h0
   have hx':=hf _ (List.getElem_mem h0)
   rw[List.drop_eq_getElem_cons h0]at hs
   rw[qay]at hs
   simp only[gQ1l,dT_ (show (i:Int)<l.length by omega),cT_,q9,hx,oB_,qcs _ v hx',qgb _ v hx',qg h0 (show l.length<=9223372036854775807 by omega)]
   cases ha:qu l[i] v with
   | true =>
    rw[ha,cT_]at hs
    refine .inr ⟨_,rfl,?_⟩
    rw[←hs]
    simp only[nT_,cF_]
    rw[dF_ (show ¬(i:Int)<0 by omega)];rfl
   | false =>
    rw[ha,cF_]at hs
    simp only[cF_]
    cases hd:difV l[i] v with
    | true =>
     rw[hd,cT_]at hs
     exact .inl ⟨_,rfl,⟨i+1,rfl,h0,hs⟩,by simp only[Int.toNat_natCast];omega⟩
    | false =>
     rw[hd,cF_]at hs
     refine .inr ⟨_,rfl,?_⟩
     rw[←hs];rfl
 obtain ⟨q,h1,h2⟩:=key
 rw[h1,oB_,h2]
noncomputable def q2i:List Val->List Val->List Val->Val
 | _,acc,[]=>Val.mk 4 0 eS acc []
 | pre,acc,x::r=>bif (pre.any fun y=>!qu x y&&!difV x y) then vU else q2i (pre++[x]) (bif (pre.any fun y=>qu x y) then acc else acc++[x]) r
theorem qap (pre acc:List Val) (x:Val) (r:List Val):q2i pre acc (x::r)=bif (pre.any fun y=>!qu x y&&!difV x y) then vU else q2i (pre++[x]) (bif (pre.any fun y=>qu x y) then acc else acc++[x]) r:=by rw[q2i]
theorem qn2 {α:Type} (l:List α) (i:Nat) (hi:i<=l.length):slc l 0 (i:Int)=some (l.take i):=by
 unfold slc
 rw[if_pos (by omega)]
 simp
theorem qqw (l:List Val) (hl:l.length<=100000) (hf:∀x∈l,x.Fits):gQ12 l=some (q2i [] [] l):=by
 unfold gQ12
 have:=qt (body:=gQ13 l) l (fun i (a:List Val)=>((i:Int),a)) (fun a r=>q2i (l.take (l.length-r.length)) a r) (fun a r=>a.length+r.length<=l.length/\∀x∈r,x.Fits) (s0:=(0,[])) (a:=[]) rfl ⟨by simp,hf⟩ (fun a _=>?_) (fun i x r a hi hx hd hq=>?_)
 .rw[this,Nat.sub_self,List.take_zero]
 .simp only[gQ13,dF_ (show ¬(l.length:Int)<l.length by omega),cF_,q2i];rfl
 .have hr:l.length-(x::r).length=i:=by
   have:=congrArg List.length hd
   rw[List.length_drop]at this;omega
  have hq1:=hq.1
  rw[lC_]at hq1
  have hr':l.length-r.length=i+1:=by rw[lC_]at hr;omega
  have hx':=hq.2 x mS_
  have htk:l.take (i+1)=l.take i++[x]:=by
   rw[List.take_add_one,hx];rfl
  rw[hr,hr',htk]
  simp only[gQ13,dT_ (show (i:Int)<l.length by omega),cT_,q9,hx,oB_,qn2 l i (by omega)]
  -- the inner loop
  have hin:=qt (body:=gQ14 x (l.take i) ((i:Int),a)) (l.take i) (fun j (b:Bool)=>((j:Int),b))
   (fun b q=>bif (q.any fun y=>!qu x y&&!difV x y) then (.inr vU:(Int×List Val)⊕Val) else .inl (((i+1:Nat):Int),bif (b&&!q.any fun y=>qu x y) then a++[x] else a)) (fun _ _=>True) (s0:=(0,true)) (a:=true) rfl trivial (fun b _=>?_) (fun j y q b hj hy _ _=>?_)
  .rw[show q7 (gQ14 x (l.take i) ((i:Int),a)) (0,true)=_ from hin,Bool.true_and]
   rw[qap]
   cases (l.take i).any fun y=>!qu x y&&!difV x y with
   | true=>right;rfl
   | false =>
    left
    refine ⟨bif ((l.take i).any fun y=>qu x y) then a else a++[x],⟨?_,fun y hy=>hq.2 y (mC_ _ hy)⟩,?_,rfl⟩
    .cases (l.take i).any fun y=>qu x y with
     | true=>rw[cT_];omega
     | false=>rw[cF_,lA_,l1_];omega
    .cases (l.take i).any fun y=>qu x y<;>rfl
  .simp only[gQ14,dF_ (show ¬((l.take i).length:Int)<(l.take i).length by omega),cF_,List.any_nil,nF_,Bool.and_true,qg hi (show l.length<=9223372036854775807 by omega)]
   cases b with
   | false=>rfl
   | true =>
    rw[cT_,q1k a x (m:=80) (n:=100001) (by decide) (by omega) (by decide)];rfl
  .have hjl:j<l.length:=by rw[List.length_take]at hj;omega
   simp only[gQ14,dT_ (show (j:Int)<(l.take i).length by omega),cT_,q9,hy,oB_,qcs x y hx',qgb x y hx',List.any_cons,qg hjl (show l.length<=9223372036854775807 by omega)]
   cases hal:qu x y with
   | true =>
    left
    refine ⟨false,trivial,?_,by simp⟩
    rw[nT_,cF_]
    cases b<;>rfl
   | false =>
    rw[nF_,cT_]
    cases hdf:difV x y with
    | false=>right;rfl
    | true =>
     left
     refine ⟨b,trivial,?_,by simp⟩
     rw[nT_,cF_]
     cases b<;>rfl
mutual
/-- The elements of a list and of the lists in it; none: one of them is unknown. -/
def q6w:Val->Option (List Val)
 | .mk k n s items keys=>if k=6 then none else if k=4 then q15 items else some [.mk k n s items keys]
def q15:List Val->Option (List Val)
 | []=>some []
 | x::r=>(q6w x).bind fun a=>(q15 r).map fun b=>a++b
end
theorem q9b (x:Val):q6w x=if x.kind=6 then none else if x.kind=4 then q15 x.items else some [x]:=by cases x;rw[q6w];rfl
theorem q6a:q15 []=some []:=by rw[q15]
theorem q69 (x:Val) (r:List Val):q15 (x::r)=(q6w x).bind fun a=>(q15 r).map fun b=>a++b:=by rw[q15]
theorem q6f (x:Val):q2k x=1+q1d x.items:=by cases x;rw[q2k];rfl
theorem q5t (x:Val) (r:List Val):q1d (x::r)=q2k x+q1d r:=by rw[q1d]
theorem qf5:q1d []=0:=by rw[q1d]
theorem qbw:∀{l:List Val} {x:Val},x∈l->q2k x<=q1d l
 | y::r,x,h=>by
  rw[q5t]
  rcases List.mem_cons.1 h with rfl|h
  .omega
  .have:=qbw h;omega
theorem q9m:∀(l:List Val),l.length<=q1d l
 | []=>by rw[qf5];exact Nat.le_refl _
 | x::r=>by
  rw[q5t,lC_,q6f]
  have:=q9m r
  omega
theorem qru (x:Val):∀z,q6w x=some z->z.length<=q2k x:=by
 induction x using wfV.induction with
 | h x ih =>
  intro z h
  have key:∀(l:List Val),(∀y∈l,y∈x.items)->∀z,q15 l=some z->z.length<=q1d l:=by
   intro l
   induction l with
   | nil=>intro _ z hz;rw[q6a]at hz;obtain rfl:=Option.some.inj hz;exact Nat.zero_le _
   | cons y r ihl =>
    intro hm z hz
    rw[q69]at hz
    obtain ⟨a,ha,hz⟩:=Option.bind_eq_some_iff.1 hz
    obtain ⟨b,hb,rfl⟩:=oM_.1 hz
    have h1:=ih y (hm y mS_) a ha
    have h2:=ihl (fun w hw=>hm w (mC_ _ hw)) b hb
    rw[q5t,lA_];omega
  rw[q9b]at h
  rw[q6f]
  split at h
  .cases h
  split at h
  .have:=key x.items (fun _ h=>h) z h;omega
  .obtain rfl:=Option.some.inj h;simp
theorem qaw:∀(l z:List Val),q15 l=some z->z.length<=q1d l
 | [],z,hz=>by rw[q6a]at hz;obtain rfl:=Option.some.inj hz;exact Nat.zero_le _
 | y::r,z,hz=>by
  rw[q69]at hz
  obtain ⟨a,ha,hz⟩:=Option.bind_eq_some_iff.1 hz
  obtain ⟨b,hb,rfl⟩:=oM_.1 hz
  have h1:=qru y a ha
  have h2:=qaw r b hb
  rw[q5t,lA_];omega
open Classical in
theorem qrs (l:List Val):tQah l=gQ1h (fun a0=>if q6i a0 l then tQah a0 else none) l:=q30 l ()
open Classical in
theorem qry (l:List Val):q1d l<=100000->tQah l=some (match q15 l with|some z=>(z,true)|none=>([],false)):=by
 induction l using wfVL.induction with
 | h l ih =>
  intro hn
  have hll:=q9m l
  rw[qrs]
  unfold gQ1h
  refine qt l (fun i (a:List Val)=>((i:Int),a)) (fun a r=>match q15 r with|some z=>(a++z,true)|none=>([],false)) (fun a r=>a.length+q1d r<=q1d l/\∀x∈r,x∈l) (s0:=(0,[])) (a:=[]) rfl ⟨by simp,fun _ h=>h⟩ (fun a _=>?_) (fun i x r a hi hx _ hq=>?_) |>.trans (by cases q15 l<;>rfl)
  .simp only[gQ1i,dF_ (show ¬(l.length:Int)<l.length by omega),cF_,q6a,List.append_nil]
  .obtain ⟨q1,q2⟩:=hq
   have hm:=q2 x mS_
   rw[q5t]at q1
   have hnx:=q6f x
   simp only[gQ1i,dT_ (show (i:Int)<l.length by omega),cT_,q9,hx,oB_,qg hi (show l.length<=9223372036854775807 by omega),q69]
   rw[q9b]
   by_cases h6:x.kind=6
   .right;rw[dT_ h6,if_pos h6];rfl
   rw[dF_ h6,cF_,if_neg h6]
   by_cases h4:x.kind=4
   .rw[dT_ h4,cT_,if_pos h4,if_pos (show q6i x.items l from ⟨x,hm,rfl⟩),ih x.items ⟨x,hm,rfl⟩ (by have:=qbw hm;omega)]
    cases hf:q15 x.items with
    | none=>right;rfl
    | some z =>
     have hz:=qaw _ _ hf
     left
     refine ⟨a++z,⟨by rw[lA_];omega,fun y hy=>q2 y (mC_ _ hy)⟩,?_,?_⟩
     .simp only[oB_,nT_,cF_]
      rw[q5f (by decide) (show (a.length+z.length)*80<=140737488355328 by omega),oB_]
     .simp only[oB_]
      cases q15 r with
      | none=>rfl
      | some b=>simp
   .rw[dF_ h4,cF_,if_neg h4]
    left
    refine ⟨a++[x],⟨by rw[lA_,l1_];omega,fun y hy=>q2 y (mC_ _ hy)⟩,?_,?_⟩
    .rw[q1k a x (m:=80) (n:=100001) (by decide) (by omega) (by decide),oB_]
    .simp only[oB_]
     cases q15 r with
     | none=>rfl
     | some b=>simp
open Go.RowKit
abbrev lV (l:List Val):Val:=Val.mk 4 0 eS l []
theorem q2w (n:Int):NumPlain.validB n=true↔-9007199254740992<=n/\n<=9007199254740992:=NumPlain.validB_iff n
theorem q9d (n:Int):gQ3v n=some (NumPlain.validB n):=by
 unfold gQ3v
 by_cases h:n >= -9007199254740992
 .rw[dT_ h,cT_]
  congr 1
  rw[Bool.eq_iff_iff,decide_eq_true_iff,q2w]
  omega
 .rw[dF_ h,cF_]
  congr 1
  rw[Bool.eq_iff_iff,q2w]
  simp;omega
theorem qsk (n:Int):gQ3x n=some (if NumPlain.validB n=true then (n,0) else (0,5)):=by
 unfold gQ3x
 rw[q9d,oB_]
 cases NumPlain.validB n<;>rfl
theorem qsa {a b:Int} (ha:NumPlain.validB a=true) (hb:NumPlain.validB b=true):gQ3p a b=some (if NumPlain.validB (a+b)=true then (a+b,0) else (0,5)):=by
 unfold gQ3p
 have h1:=(q2w a).1 ha
 have h2:=(q2w b).1 hb
 rw[q9d,ha,oB_,q9d,hb,oB_,qy (by omega) (by omega),qsk]
 rfl
theorem qsh {a:Int} {n:Nat} (ha:NumPlain.validB a=true) (h0:1<=n) (hn:n<=100000):gQ3t a (n:Int)=some (a % n,0):=by
 have h1:=(q2w a).1 ha
 have hbn:(0:Int)<n:=by omega
 have e1:=Int.emod_nonneg a (show (n:Int)≠0 by omega)
 have e2:=Int.emod_lt_of_pos a hbn
 have e3:=Int.mul_ediv_add_emod a n
 have q1:-9007199254740993<=a / n:=by
  have:=Int.ediv_le_ediv hbn (show (n:Int)*(-9007199254740993)<=a by
   have:(n:Int)*(-9007199254740993)<=1*(-9007199254740993):=Int.mul_le_mul_of_nonpos_right (by omega) (by omega)
   omega)
  rwa [Int.mul_ediv_cancel_left _ (by omega)]at this
 have q2:a / n<=9007199254740992:=by
  have:=Int.ediv_le_ediv hbn (show a<=(n:Int)*9007199254740992 by
   have:1*9007199254740992<=(n:Int)*9007199254740992:=Int.mul_le_mul_of_nonneg_right (by omega) (by omega)
   omega)
  rwa [Int.mul_ediv_cancel_left _ (by omega)]at this
 have hdiv:gQ3r a (n:Int)=some (a / n,0):=by
  unfold gQ3r
  rw[q9d,ha,oB_,q9d,(q2w (n:Int)).2 (by omega),oB_]
  simp only[nT_,cF_]
  rw[dF_ (show ¬(n:Int)=0 by omega),cF_]
  unfold quo rem
  rw[if_neg (show ¬(n:Int)=0 by omega),if_neg (show ¬(n:Int)=0 by omega),oB_,oB_,Int.tdiv_eq_ediv,Int.tmod_eq_emod]
  rw[Int.sign_eq_one_of_pos hbn,dF_ (show ¬(n:Int)<0 by omega)]
  have w1:IntKind.i64.wrap (a / n)=a / n:=qy (by omega) (by omega)
  have w2:IntKind.i64.wrap (a / n+1)=a / n+1:=qy (by omega) (by omega)
  have w3:IntKind.i64.wrap (a / n+1 - 1)=a / n:=by rw[show a / (n:Int)+1 - 1=a / n by omega];exact w1
  by_cases hc:0<=a\/(n:Int) ∣ a
  .rw[if_pos hc,if_pos hc,Int.add_zero,w1]
   by_cases hz:a % n=0
   .rw[dT_ (by omega)];rfl
   .rw[dF_ (by omega),nF_,cT_]
    have:¬a<0:=by
     rcases hc with h|h
     .omega
     .exact absurd (Int.emod_eq_zero_of_dvd h) hz
    rw[dF_ this];rfl
  .rw[if_neg hc,if_neg hc,w2]
   have hne:a % n≠0:=fun h=>hc (.inr (Int.dvd_of_emod_eq_zero h))
   have hna:(Int.natAbs (n:Int):Int)=n:=by omega
   rw[dF_ (show ¬(a % (n:Int)-(Int.natAbs (n:Int):Int)=0) by omega),nF_,cT_,dT_ (show a<0 by omega)]
   show some (IntKind.i64.wrap (a / n+1 - 1),(0:Int))=_
   rw[w3]
 unfold gQ3t
 rw[hdiv,oB_]
 show some (IntKind.i64.wrap (a-IntKind.i64.wrap ((n:Int)*(a / n))),(0:Int))=_
 have w4:IntKind.i64.wrap ((n:Int)*(a / n))=(n:Int)*(a / n):=qy (by omega) (by omega)
 rw[w4,show a-(n:Int)*(a / n)=a % n by omega,qy (by omega) (by omega)]
def extS (s:Int):Val->List Val->Val
 | b,[]=>b
 | b,v::r=>extS s (if s*v.num > s*b.num then v else b) r
theorem qyo {α:Type} (l:List α) (h:1<=l.length):slc l 1 (l.length:Int)=some (l.drop 1):=by
 unfold slc
 rw[if_pos (by omega)]
 congr 1
 simp only[Int.toNat_one,Int.toNat_natCast]
 exact List.take_of_length_le (by simp)
theorem qzu (b:Val):Val.mk b.kind b.num b.str b.items b.keys=b:=by cases b;rfl
theorem qrf (x:Val) (r:List Val) {s:Int} (hs:s=1\/s=-1) (hl:r.length<=1000) (hv:∀v∈x::r,-9007199254740992<=v.num/\v.num<=9007199254740992):gQ18 (x::r) s=some (extS s x r):=by
 unfold gQ18
 have e0:idx (x::r) 0=some x:=rfl
 rw[e0,oB_,qyo (x::r) (by simp),oB_]
 refine qt r (fun i (b:Val)=>(b.kind,b.num,b.str,b.items,b.keys,(i:Int))) (fun b r=>extS s b r) (fun b q=>∀v∈b::q,-9007199254740992<=v.num/\v.num<=9007199254740992) rfl hv (fun b _=>?_) (fun i y q b hi hx _ hq=>?_)
 .simp only[gQ19,List.drop_succ_cons,List.drop_zero,dF_ (show ¬(r.length:Int)<r.length by omega),cF_,extS,qzu]
 .left
  have h1:=hq b mS_
  have h2:=hq y (mC_ _ mS_)
  have w1:IntKind.i64.wrap (s*y.num)=s*y.num:=by rcases hs with rfl|rfl<;>exact qy (by omega) (by omega)
  have w2:IntKind.i64.wrap (s*b.num)=s*b.num:=by rcases hs with rfl|rfl<;>exact qy (by omega) (by omega)
  refine ⟨if s*y.num > s*b.num then y else b,fun v hv=>?_,?_,by rw[extS]⟩
  .rcases List.mem_cons.1 hv with rfl|hv
   .split<;>assumption
   .exact hq v (mC_ _ (mC_ _ hv))
  .simp only[gQ19,List.drop_succ_cons,List.drop_zero,dT_ (show (i:Int)<r.length by omega),cT_,q9,hx,oB_,qg hi (show r.length<=9223372036854775807 by omega),w1,w2]
   by_cases h:s*y.num > s*b.num
   .rw[dT_ h,if_pos h];rfl
   .rw[dF_ h,if_neg h];rfl
def upTo (a b:Int):List Val:=(List.range (b-a).toNat).map fun i=>vNum (a+(i:Nat))
noncomputable def q3s (a b:Int):Val×Int:=if b-a > 4096 then (vZ,14) else (lV (upTo a b),0)
theorem qlb {body:Int×List Val->Option ((Int×List Val)⊕(Val×Int))} (a b:Int) (h1:-9007199254740992<=a/\a<=9007199254740992) (h2:-9007199254740992<=b/\b<=9007199254740992) (hd:b-a<=4096)
  (hbody:∀(n:Int) (acc:List Val),acc.length<5000->-9007199254740992<=n/\n<=9007199254740992->body (n,acc)=if n<b then some (.inl (n+1,acc++[vNum n])) else some (.inr (lV acc,0))):q7 body (a,[])=some (lV (upTo a b),0):=by
 obtain ⟨q,e1,e2⟩:=q1w (body:=body) (fun s=>∃i:Nat,i<=(b-a).toNat/\s=(a+(i:Int),(List.range i).map fun j=>vNum (a+(j:Nat)))) (fun s=>(b-s.1).toNat) (fun q=>q=(lV (upTo a b),0)) (by
  rintro s ⟨i,hi,rfl⟩
  have hb:=hbody (a+(i:Int)) ((List.range i).map fun j=>vNum (a+(j:Nat))) (by simp;omega) (by omega)
  by_cases h:a+(i:Int)<b
  .rw[if_pos h]at hb
   refine .inl ⟨_,hb,⟨i+1,by omega,?_⟩,by simp only;omega⟩
   rw[List.range_succ,List.map_append]
   exact Prod.ext (by simp only;omega) rfl
  .rw[if_neg h]at hb
   refine .inr ⟨_,hb,?_⟩
   have:i=(b-a).toNat:=by omega
   subst this;rfl) (a,[]) ⟨0,Nat.zero_le _,by simp⟩
 rw[e1,e2]
theorem qlc {a b:Int} (ha:NumPlain.validB a=true) (hb:NumPlain.validB b=true):gQ2g a b=some (q3s a b):=by
 have h1:=(q2w a).1 ha
 have h2:=(q2w b).1 hb
 unfold gQ2g q3s
 rw[qy (by omega) (by omega)]
 by_cases h:b-a > 4096
 .rw[dT_ h,if_pos h];rfl
 rw[dF_ h,if_neg h,cF_]
 refine qlb a b h1 h2 (by omega) fun n acc hl hn=>?_
 unfold gQ2h
 by_cases hlt:n<b
 .rw[if_pos hlt]
  simp only[dT_ hlt,cT_,gQa3,oB_,q1k acc _ (m:=80) (n:=5000) (by decide) hl (by decide),qy (show -9223372036854775808<=n+1 by omega) (show n+1<=9223372036854775807 by omega)]
 .rw[if_neg hlt]
  simp only[dF_ hlt,cF_];rfl
def sumS:Int->List Val->Val×Int
 | n,[]=>(vNum n,0)
 | n,v::r=>if NumPlain.validB (n+v.num)=true then sumS (n+v.num) r else (vZ,5)
theorem qz9 (x:Val) (hl:x.items.length<=100000) (hv:∀v∈x.items,NumPlain.validB v.num=true):q7 (gQ2k x) (0,0)=some (sumS 0 x.items):=by
 refine qt x.items (fun i (n:Int)=>((i:Int),n)) (fun n r=>sumS n r) (fun n r=>NumPlain.validB n=true/\∀v∈r,NumPlain.validB v.num=true) rfl ⟨by decide,hv⟩ (fun n _=>?_) (fun i y q n hi hx _ hq=>?_)
 .simp only[gQ2k,dF_ (show ¬(x.items.length:Int)<x.items.length by omega),cF_,sumS];rfl
 .have hy:=hq.2 y mS_
  simp only[gQ2k,dT_ (show (i:Int)<x.items.length by omega),cT_,q9,hx,oB_,qsa hq.1 hy,qg hi (show x.items.length<=9223372036854775807 by omega),sumS]
  by_cases h:NumPlain.validB (n+y.num)=true
  .left
   rw[if_pos h,if_pos h]
   exact ⟨n+y.num,⟨h,fun v hv=>hq.2 v (mC_ _ hv)⟩,rfl,rfl⟩
  .right
   rw[if_neg h,if_neg h];rfl
def q7x (s t:ByteArray):Bool:=decide (t.size<=s.size)&&decide (s.extract (s.size-t.size) s.size=t)
def begB (s t:ByteArray):Bool:=decide (t.size<=s.size)&&decide (s.extract 0 t.size=t)
theorem qz8 (s t:ByteArray) (hs:s.size<=140737488351232):gQ97 s t=some (q7x s t):=by
 unfold gQ97 gQ9b q7x
 by_cases h:t.size<=s.size
 .rw[dT_ (show (s.size:Int) >= t.size by omega),cT_,qy (by omega) (by omega)]
  have e:sslc s ((s.size:Int)-t.size) (s.size:Int)=some (s.extract (s.size-t.size) s.size):=by
   unfold sslc
   rw[if_pos (by omega)]
   congr 2
   omega
  rw[e,dT_ h];rfl
 .rw[dF_ (show ¬(s.size:Int) >= t.size by omega),cF_,dF_ h];rfl
theorem qw3 (s t:ByteArray) (hs:s.size<=140737488351232):gQ95 s t=some (begB s t):=by
 unfold gQ95 gQ99 begB
 by_cases h:t.size<=s.size
 .rw[dT_ (show (s.size:Int) >= t.size by omega),cT_]
  have e:sslc s 0 (t.size:Int)=some (s.extract 0 t.size):=by
   unfold sslc
   rw[if_pos (by omega)]
   rfl
  rw[e,dT_ h];rfl
 .rw[dF_ (show ¬(s.size:Int) >= t.size by omega),cF_,dF_ h];rfl
theorem qsb (b:Bool):gQ9f b=some (bV b):=by cases b<;>rfl
def q1b (l:List Val):List ByteArray:=l.map Val.str
theorem qea:∀(l:List (List UInt8)) (s:List UInt8) (m:Nat),(∀x∈l,x.length<=m)->(Lib.join l s).length<=l.length*(m+s.length)
 | [],s,m,_=>by simp[Lib.join]
 | [x],s,m,h=>by
  have:=h x (by simp)
  simp[Lib.join];omega
 | x::y::r,s,m,h=>by
  have h1:=h x (by simp)
  have h2:=qea (y::r) s m fun z hz=>h z (mC_ _ hz)
  have e:Lib.join (x::y::r) s=x++(s++Lib.join (y::r) s):=by simp[Lib.join,List.intercalate]
  rw[e]
  simp only[lA_,lC_,Nat.succ_mul]at h2 ⊢
  omega
theorem qsv (s:ByteArray) (l:List Val) (hs:s.size<=4096) (hl:l.length<=100000) (hv:∀v∈l,v.str.size<=4096):gQ1t s l=some (qv (q1b l) s):=by
 unfold gQ1t
 have:=qt (body:=gQ1u s l) l (fun i (a:List ByteArray)=>((i:Int),a)) (fun a r=>qv (a++q1b r) s) (fun a r=>a.length+r.length<=100000/\∀x∈a++q1b r,x.size<=4096) (s0:=(0,[])) (a:=[]) rfl ⟨by simpa using hl,fun x hx=>by
  obtain ⟨v,hv1,rfl⟩:=List.mem_map.1 (by simpa [q1b] using hx)
  exact hv v hv1⟩ (fun a hq=>?_) (fun i x r a hi hx _ hq=>?_)
 .rw[this];rfl
 .have hj:qeo a s=some (qv a s):=by
   refine q1v ⟨by have:=hq.1;simp at this;omega,?_⟩
   have h1:=qea (a.map (·.data.toList)) s.data.toList 4096 (fun x hx=>by
    obtain ⟨b,hb,rfl⟩:=List.mem_map.1 hx
    have:=hq.2 b (by simp[hb])
    simpa using this)
   have hs2:s.data.toList.length=s.size:=by simp
   rw[lM_,hs2]at h1
   have h2:a.length<=100000:=by have:=hq.1;simp at this;omega
   have h3:a.length*(4096+s.size)<=100000*8192:=Nat.mul_le_mul h2 (by omega)
   omega
  simp only[gQ1u,dF_ (show ¬(l.length:Int)<l.length by omega),cF_,hj,oB_,q1b,List.map_nil,List.append_nil]
 .left
  have h1:=hq.1
  rw[lC_]at h1
  refine ⟨a++[x.str],⟨by rw[lA_,l1_];omega,fun y hy=>hq.2 y (by simpa [q1b] using hy)⟩,?_,by simp[q1b]⟩
  simp only[gQ1u,dT_ (show (i:Int)<l.length by omega),cT_,q9,hx,oB_,q1k a x.str (m:=16) (n:=100001) (by decide) (by omega) (by decide),qg hi (show l.length<=9223372036854775807 by omega)]
def q6k (s a b:ByteArray):ByteArray:=⟨(Lib.replaceAll s.data.toList a.data.toList b.data.toList).toArray⟩
noncomputable def q59 (s a b:ByteArray):Val×Int:=if a=eS then (vZ,1) else if 4096<(q6k s a b).size then (vZ,3) else (vText (q6k s a b),0)
theorem qfq {s:ByteArray} (h:s.size=0):s=eS:=by
 obtain ⟨⟨l⟩⟩:=s
 have:l.length=0:=h
 rw[List.length_eq_zero_iff.1 this]
theorem qwx (s a b:ByteArray) (hs:s.size<=4096) (hb:b.size<=4096) (hc:a≠eS->Lib.countB s a<=4097):gQ2m s a b=some (q59 s a b):=by
 unfold gQ2m q59
 by_cases h:a=eS
 .rw[dT_ h,if_pos h];rfl
 rw[dF_ h,if_neg h,cF_]
 have ha:1<=a.size:=by
  rcases Nat.eq_zero_or_pos a.size with h0|h0
  .exact absurd (qfq h0) h
  .exact h0
 have hm:qep s a b=some (q6k s a b):=by
  refine q1v ⟨by omega,ha,?_⟩
  have:=Nat.mul_le_mul (hc h) hb
  omega
 rw[hm,oB_]
 by_cases h2:4096<(q6k s a b).size
 .rw[dT_ (show ((q6k s a b).size:Int) > 4096 by omega),if_pos h2];rfl
 .rw[dF_ (show ¬((q6k s a b).size:Int) > 4096 by omega),if_neg h2];rfl
def q2l (s sep:ByteArray):List ByteArray:=Lib.splitB sep 0 (Lib.countB s sep) s
noncomputable def q5b (s t:ByteArray):Val×Int:=if s=eS then (vZ,1) else (lV ((q2l t s).map vText),0)
theorem qz3 (s t:ByteArray) (ht:t.size<=4096) (hl:s≠eS->(q2l t s).length<=100000):gQ2v s t=some (q5b s t):=by
 unfold gQ2v q5b
 by_cases h:s=eS
 .rw[dT_ h,if_pos h];rfl
 rw[dF_ h,if_neg h,cF_]
 have hs:1<=s.size:=by
  rcases Nat.eq_zero_or_pos s.size with h0|h0
  .exact absurd (qfq h0) h
  .exact h0
 have hm:qet t s=some (q2l t s):=q1v ⟨by omega,hs⟩
 have hll:=hl h
 rw[hm,oB_]
 generalize q2l t s=l at hll
 have:=qt (body:=gQ2w l) l (fun i (a:List Val)=>((i:Int),a)) (fun a r=>(lV (a++r.map vText),(0:Int))) (fun a r=>a.length+r.length<=100000) (s0:=(0,[])) (a:=[]) rfl (by simpa using hll) (fun a hq=>?_) (fun i x r a hi hx _ hq=>?_)
 .exact this
 .simp only[gQ2w,dF_ (show ¬(l.length:Int)<l.length by omega),cF_,List.map_nil,List.append_nil];rfl
 .left
  rw[lC_]at hq
  refine ⟨a++[vText x],by rw[lA_,l1_];omega,?_,by simp⟩
  simp only[gQ2w,gQa5,dT_ (show (i:Int)<l.length by omega),cT_,q9,hx,oB_,q1k a _ (m:=80) (n:=100001) (by decide) (by omega) (by decide),qg hi (show l.length<=9223372036854775807 by omega)]
def q5g (lo hi d:Int) (s:ByteArray):ByteArray:=⟨(q63 lo hi d s).toArray⟩
def q6m (s:ByteArray):ByteArray:=⟨(Lib.trimS s.data.toList [32,9,10,13]).toArray⟩
theorem qzm (s:ByteArray) (hs:s.size<=4096):qbp s ⟨#[32,9,10,13]⟩=some (q6m s):=q1v ⟨by omega,by decide,by decide⟩
open Go.RowKit
theorem q8z {a b:ByteArray} (h:a.toList=b.toList):a=b:=by
 rw[ByteArray.toList_eq,ByteArray.toList_eq]at h
 obtain ⟨⟨x⟩⟩:=a
 obtain ⟨⟨y⟩⟩:=b
 simp at h
 subst h;rfl
theorem q89 (a b:List UInt8):Op.bytesLess a b=true\/a=b\/Op.bytesLess b a=true:=by
 cases h:Op.bytesLess a b with
 | true=>exact .inl rfl
 | false =>
  cases k:Op.bytesLess b a with
  | true=>exact .inr (.inr rfl)
  | false=>exact .inr (.inl (qah h k))
theorem qkf {a b:List UInt8} (h:Op.bytesLess a b=true):Op.bytesLess b a=false:=by
 cases k:Op.bytesLess b a with
 | false=>rfl
 | true=>have:=q5s h k;rw[q4k]at this;cases this
section
variable {α : Type}
def SP (l:List (ByteArray×α)):Prop:=l.Pairwise fun p q=>Op.bytesLess p.1.toList q.1.toList=true
theorem qfv:∀{l m:List (ByteArray×α)},SP l->SP m->(∀p,p∈l↔p∈m)->l=m
 | [],[],_,_,_=>rfl
 | [],q::m,_,_,h=>absurd ((h q).2 mS_) mN_
 | p::l,[],_,_,h=>absurd ((h p).1 mS_) mN_
 | p::l,q::m,hl,hm,h=>by
  obtain ⟨l1,l2⟩:=List.pairwise_cons.1 hl
  obtain ⟨m1,m2⟩:=List.pairwise_cons.1 hm
  have e:p=q:=by
   rcases List.mem_cons.1 ((h p).1 mS_) with e|e
   .exact e
   rcases List.mem_cons.1 ((h q).2 mS_) with k|k
   .exact k.symm
   .have:=qkf (m1 p e);rw[l1 q k]at this;cases this
  subst e
  have np:∀{l:List (ByteArray×α)},(∀q∈l,Op.bytesLess p.1.toList q.1.toList=true)->p ∉ l:=fun h k=>by
   have:=h p k;rw[q4k]at this;cases this
  rw[qfv l2 m2 fun x=>⟨fun hx=>?_,fun hx=>?_⟩]
  .rcases List.mem_cons.1 ((h x).1 (mC_ _ hx)) with rfl|k
   .exact absurd hx (np l1)
   .exact k
  .rcases List.mem_cons.1 ((h x).2 (mC_ _ hx)) with rfl|k
   .exact absurd hx (np m1)
   .exact k
def insP (p:ByteArray×α):List (ByteArray×α)->List (ByteArray×α)
 | []=>[p]
 | q::r=>if Op.bytesLess q.1.toList p.1.toList=true then q::insP p r else p::q::r
theorem qbs {p x:ByteArray×α}:∀{l:List (ByteArray×α)},x∈insP p l↔x=p\/x∈l
 | []=>by simp[insP]
 | q::r=>by
  unfold insP
  split
  .rw[List.mem_cons,qbs (l:=r),List.mem_cons]
   exact ⟨fun h=>h.elim (fun h=>.inr (.inl h)) fun h=>h.elim .inl fun h=>.inr (.inr h),fun h=>h.elim (fun h=>.inr (.inl h)) fun h=>h.elim .inl fun h=>.inr (.inr h)⟩
  .rw[List.mem_cons]
theorem qn8 {p:ByteArray×α}:∀{l:List (ByteArray×α)},SP l->(∀q∈l,q.1≠p.1)->SP (insP p l)
 | [],_,_=>List.pairwise_singleton _ _
 | q::r,h,hn=>by
  obtain ⟨h1,h2⟩:=List.pairwise_cons.1 h
  unfold insP
  split
  .rename_i hc
   refine List.pairwise_cons.2 ⟨fun x hx=>?_,qn8 h2 fun q hq=>hn q (mC_ _ hq)⟩
   rcases qbs.1 hx with rfl|k
   .exact hc
   .exact h1 x k
  .rename_i hc
   have hpq:Op.bytesLess p.1.toList q.1.toList=true:=by
    rcases q89 q.1.toList p.1.toList with k|k|k
    .exact absurd k hc
    .exact absurd (q8z k) (hn q mS_)
    .exact k
   refine List.pairwise_cons.2 ⟨fun x hx=>?_,h⟩
   rcases List.mem_cons.1 hx with rfl|k
   .exact hpq
   .exact q5s hpq (h1 x k)
theorem qjh {p:ByteArray×α}:∀{l:List (ByteArray×α)},(insP p l).length=l.length+1
 | []=>rfl
 | q::r=>by unfold insP;split<;>simp[qjh (l:=r)]
end
def iota (n:Nat):List Int:=(List.range n).map fun (i:Nat)=>(i:Int)
theorem qb8 (n:Nat):(iota n).length=n:=by simp[iota]
theorem qvi (keys:List ByteArray) (hl:keys.length<=140737488351232) :
  ∃o,q6e keys (iota keys.length)=some o/\o.Perm (iota keys.length)/\∀(i j:Nat) (x y:Int) (a b:ByteArray),i<j->o[i]?=some x->o[j]?=some y->keys[x.toNat]?=some a->keys[y.toNat]?=some b->Op.bytesLess b.toList a.toList=false:=by
 have hr:∀x∈iota keys.length,0<=x/\x<keys.length:=fun x hx=>by
  simp only[iota,List.mem_map,List.mem_range]at hx
  obtain ⟨i,hi,rfl⟩:=hx
  omega
 unfold q6e
 by_cases h0:iota keys.length=[]
 .rw[if_pos h0]
  exact ⟨[],rfl,by rw[h0],fun i j x y a b _ e=>by simp at e⟩
 .rw[if_neg h0]
  have hpos:0<keys.length:=Nat.pos_of_ne_zero fun e=>h0 (by rw[e];rfl)
  have hc:0<keys.length/\(iota keys.length).length<4611686018427387904/\∀x∈iota keys.length,0<=x/\x<keys.length:=⟨hpos,by rw[qb8];omega,hr⟩
  rw[dif_pos hc]
  letI:Inhabited (Plc keys):=⟨⟨0,hpos⟩⟩
  obtain ⟨q1,q2⟩:=q3k (swoP keys) (plcs keys (iota keys.length) hc.2.2)
  refine ⟨_,rfl,?_,fun i j x y a b hij e1 e2 k1 k2=>?_⟩
  .have:=q1.map (fun a:Plc keys=>(a.1:Int))
   rwa [qlq]at this
  .simp only[List.getElem?_map,oM_]at e1 e2
   obtain ⟨p,e1,rfl⟩:=e1
   obtain ⟨q,e2,rfl⟩:=e2
   obtain ⟨hi,e1⟩:=List.getElem?_eq_some_iff.1 e1
   obtain ⟨hj,e2⟩:=List.getElem?_eq_some_iff.1 e2
   have h:=List.pairwise_iff_getElem.1 q2 i j hi hj hij
   rw[e1,e2]at h
   have h':ltOf cmpS (keys[q.1]'q.2) (keys[p.1]'p.2)=false:=h
   rw[ltS]at h'
   rw[Int.toNat_natCast,gE_ p.2]at k1
   rw[Int.toNat_natCast,gE_ q.2]at k2
   obtain rfl:=Option.some.inj k1
   obtain rfl:=Option.some.inj k2
   exact h'
theorem qu3 (keys:List ByteArray) (items:List Val) (hk:keys.length=items.length) (hl:keys.length*8<=140737488351232) {o:List Int} (ho:q6e keys (iota keys.length)=some o) (r:Val×Int)
  (h:q7 (gQ9z keys items o) (0,[],[])=some (.inr r)):gQ9x keys items=some r:=by
 unfold gQ9x
 have hm:mkl 8 (keys.length:Int) (0:Int)=some (List.replicate keys.length 0):=by
  unfold mkl
  rw[if_pos (by omega)]
  simp
 rw[dT_ (show (keys.length:Int)=items.length by omega),nT_,cF_,hm,oB_]
 have:=q1w (body:=gQ9y keys items (List.replicate keys.length 0)) (fun s=>∃i:Nat,i<=keys.length/\s.1=(i:Int)/\s.2.length=keys.length/\∀j:Nat,j<i->s.2[j]?=some (j:Int)) (fun s=>keys.length-s.1.toNat) (fun q=>q=r) ?_ (0,List.replicate keys.length 0) ⟨0,Nat.zero_le _,rfl,by simp,fun j hj=>by omega⟩
 .obtain ⟨q,h',e⟩:=this
  rw[e]at h';exact h'
 rintro ⟨s,l⟩ ⟨i,hi,rfl,hlen,hv⟩
 simp only at hlen hv ⊢
 unfold gQ9y
 simp only[List.length_replicate]
 by_cases hlt:i<keys.length
 .left
  refine ⟨(((i+1:Nat):Int),upd l (i:Int) (i:Int)),?_,⟨i+1,hlt,rfl,by simp only[qa1];exact hlen,fun j hj=>?_⟩,by simp only[Int.toNat_natCast];omega⟩
  .rw[dT_ (show (i:Int)<(keys.length:Int) by omega),cT_,q9,gE_ (show i<l.length by omega),oB_,qg hlt (by omega)]
  .unfold upd
   simp only[Int.toNat_natCast]
   rcases Nat.eq_or_lt_of_le (Nat.le_of_lt_succ hj) with rfl|hj'
   .rw[List.getElem?_set_self (by omega)]
   .rw[List.getElem?_set_ne (by omega)];exact hv j hj'
 .right
  obtain rfl:i=keys.length:=by omega
  have hlo:l=iota keys.length:=by
   apply List.ext_getElem?
   intro j
   rcases Nat.lt_or_ge j keys.length with hj|hj
   .rw[hv j hj];simp[iota,hj]
   .rw[List.getElem?_eq_none (by omega),List.getElem?_eq_none (by rw[qb8];exact hj)]
  refine ⟨r,?_,rfl⟩
  rw[dF_ (show ¬(keys.length:Int)<(keys.length:Int) by omega),cF_,hlo,ho,oB_,h]
theorem qe5 {n i:Nat} {x:Int} (h:(iota n)[i]?=some x):x=(i:Int)/\i<n:=by
 have hi:i<n:=by have:=(List.getElem?_eq_some_iff.1 h).1;rwa [qb8]at this
 simp[iota,hi]at h
 exact ⟨h.symm,hi⟩
def q1m (L:List (ByteArray×Val)):Val:=Val.mk 5 0 eS (L.map (·.2)) (L.map (·.1))
def q1l {α:Type} (L:List (ByteArray×α)) (ps:List (ByteArray×α)):List (ByteArray×α):=ps.foldl (fun L p=>insP p L) L
theorem q7z {α:Type}:∀(ps L:List (ByteArray×α)),SP L->(ps.map (·.1)).Nodup->(∀p∈ps,∀q∈L,q.1≠p.1) ->
  SP (q1l L ps)/\(∀p,p∈q1l L ps↔p∈L\/p∈ps)/\(q1l L ps).length=L.length+ps.length
 | [],L,h,_,_=>⟨h,fun p=>by simp[q1l],rfl⟩
 | p::r,L,h,hn,hd=>by
  rw[List.map_cons,List.nodup_cons]at hn
  obtain ⟨a,b,c⟩:=q7z r (insP p L) (qn8 h fun q hq=>hd p mS_ q hq) hn.2 (fun m hm q hq e=>by
   rcases qbs.1 hq with rfl|k
   .exact hn.1 (e ▸ List.mem_map.2 ⟨m,hm,rfl⟩)
   .exact hd m (mC_ _ hm) q k e)
  refine ⟨a,fun q=>(b q).trans ?_,by show (q1l (insP p L) r).length=_;rw[c,qjh,lC_];omega⟩
  rw[qbs,List.mem_cons]
  constructor
  .rintro ((k|k)|k)
   .exact .inr (.inl k)
   .exact .inl k
   .exact .inr (.inr k)
  .rintro (k|k|k)
   .exact .inl (.inr k)
   .exact .inl (.inl k)
   .exact .inr k
def kvAt (keys:List ByteArray) (items:List Val) (x:Int):ByteArray×Val:=(keys.getD x.toNat eS,items.getD x.toNat vZ)
theorem qkp (keys:List ByteArray) (items:List Val) (hk:keys.length=items.length) (hl:keys.length<=100000) (hn:keys.Nodup) (hf:∀x∈items,x.Fits) :
  gQ9x keys items=some (q1m (q1l [] (keys.zip items)),0):=by
 obtain ⟨o,o1,o2,o3⟩:=qvi keys (by omega)
 have olen:o.length=keys.length:=by rw[o2.length_eq,qb8]
 have orng:∀(i:Nat) x,o[i]?=some x->∃j:Nat,x=(j:Int)/\j<keys.length:=fun i x h=>by
  obtain ⟨j,hj⟩:=List.getElem?_of_mem (o2.mem_iff.1 (List.mem_of_getElem? h))
  exact ⟨j,qe5 hj⟩
 have onod:o.Nodup:=o2.nodup_iff.2 (by
  rw[List.nodup_iff_pairwise_ne,List.pairwise_iff_getElem]
  intro i j hi hj hij e
  have h1:=(qe5 (gE_ hi)).1
  have h2:=(qe5 (gE_ hj)).1
  omega)
 have kat:∀j:Nat,(hj:j<keys.length)->kvAt keys items (j:Int)=(keys[j],items[j]'(hk ▸ hj)):=fun j hj=>by
  unfold kvAt
  rw[Int.toNat_natCast,List.getD_eq_getElem?_getD,List.getD_eq_getElem?_getD,gE_ hj,gE_ (hk ▸ hj)];rfl
 have hsp:SP (o.map (kvAt keys items)):=by
  refine List.pairwise_map.2 (List.pairwise_iff_getElem.2 fun i j hi hj hij=>?_)
  obtain ⟨p,e1,hp⟩:=orng i _ (gE_ hi)
  obtain ⟨q,e2,hq⟩:=orng j _ (gE_ hj)
  have:=o3 i j _ _ keys[p] keys[q] hij (gE_ hi) (gE_ hj) (by rw[e1,Int.toNat_natCast];exact gE_ hp) (by rw[e2,Int.toNat_natCast];exact gE_ hq)
  rw[e1,e2,kat p hp,kat q hq]
  rcases q89 keys[p].toList keys[q].toList with k|k|k
  .exact k
  .exfalso
   have hpq:p=q:=(List.getElem_inj hn).1 (q8z k)
   have:=(List.getElem_inj onod).1 (show o[i]=o[j] by rw[e1,e2,hpq])
   omega
  .rw[this]at k;cases k
 have hz:=q7z (keys.zip items) ([]:List (ByteArray×Val)) List.Pairwise.nil (by rw[List.map_fst_zip (by omega)];exact hn) (fun _ _ q hq=>absurd hq mN_)
 have hM:o.map (kvAt keys items)=q1l [] (keys.zip items):=qfv hsp hz.1 fun p=>by
  rw[hz.2.1,List.mem_map]
  constructor
  .rintro ⟨x,hx,rfl⟩
   obtain ⟨i,hi⟩:=List.getElem?_of_mem hx
   obtain ⟨j,rfl,hj⟩:=orng i x hi
   right
   rw[kat j hj]
   exact List.mem_of_getElem? (i:=j) (by rw[List.getElem?_zip_eq_some];exact ⟨gE_ hj,gE_ (hk ▸ hj)⟩)
  .rintro (h|h)
   .exact absurd h mN_
   .obtain ⟨j,hj⟩:=List.getElem?_of_mem h
    obtain ⟨h1,h2⟩:=q8p hj
    have hjk:=(List.getElem?_eq_some_iff.1 h1).1
    refine ⟨(j:Int),o2.mem_iff.2 ?_,?_⟩
    .exact List.mem_map.2 ⟨j,List.mem_range.2 hjk,rfl⟩
    .rw[kat j hjk]
     rw[gE_ hjk]at h1
     rw[gE_ (hk ▸ hjk)]at h2
     exact Prod.ext (Option.some.inj h1) (Option.some.inj h2)
 rw[←hM]
 refine qu3 keys items hk (by omega) o1 _ ?_
 have:=q1w (body:=gQ9z keys items o) (fun s=>∃i:Nat,i<=o.length/\s=((i:Int),((o.map (kvAt keys items)).take i).map (·.2),((o.map (kvAt keys items)).take i).map (·.1))) (fun s=>o.length-s.1.toNat) (fun q=>q=.inr (q1m (o.map (kvAt keys items)),0)) ?_ (0,[],[]) ⟨0,Nat.zero_le _,rfl⟩
 .obtain ⟨q,h',e⟩:=this
  rw[e]at h';exact h'
 rintro s ⟨i,hi,rfl⟩
 unfold gQ9z
 by_cases hlt:i<o.length
 .left
  have hx:=gE_ hlt
  obtain ⟨p,e1,hp⟩:=orng i _ hx
  have hp2:p<items.length:=hk ▸ hp
  have e0:idx o (i:Int)=some (p:Int):=by rw[q9,hx,e1]
  have e2:idx keys (p:Int)=some keys[p]:=by rw[q9,gE_ hp]
  have e3:idx items (p:Int)=some items[p]:=by rw[q9,gE_ hp2]
  have e4:tQbe items[p]=some items[p]:=qdk _ (hf _ (List.getElem_mem hp2))
  have tk:(o.map (kvAt keys items)).take (i+1)=(o.map (kvAt keys items)).take i++[(keys[p],items[p])]:=by
   rw[List.take_add_one,List.getElem?_map,hx,e1]
   show _++[kvAt keys items (p:Int)]=_
   rw[kat p hp]
  have n1:(((o.map (kvAt keys items)).take i).map (·.1)).length=i:=by simp;omega
  have n2:(((o.map (kvAt keys items)).take i).map (·.2)).length=i:=by simp;omega
  have a1:=q1k (((o.map (kvAt keys items)).take i).map (·.1)) keys[p] (m:=16) (n:=100001) (by decide) (by omega) (by decide)
  have a2:=q1k (((o.map (kvAt keys items)).take i).map (·.2)) items[p] (m:=80) (n:=100001) (by decide) (by omega) (by decide)
  refine ⟨_,?_,⟨i+1,hlt,rfl⟩,by simp only[Int.toNat_natCast];omega⟩
  rw[tk]
  simp only[dT_ (show (i:Int)<(o.length:Int) by omega),cT_,e0,oB_,e2,e3,e4,a1,a2,qg hlt (show o.length<=9223372036854775807 by omega),List.map_append,List.map_cons,List.map_nil]
  cases i with
  | zero=>rw[dF_ (show ¬(((0:Nat):Int) > 0) by omega),cF_]
  | succ j =>
   have hj:j<o.length:=by omega
   have w:IntKind.i64.wrap (((j+1:Nat):Int) - 1)=(j:Int):=by
    rw[show (((j+1:Nat):Int) - 1)=(j:Int) by omega];exact qy (by omega) (by omega)
   obtain ⟨q,e5,hq⟩:=orng j _ (gE_ hj)
   have e6:idx (((o.map (kvAt keys items)).take (j+1)).map (·.1)) (j:Int)=some keys[q]:=by
    rw[q9,List.getElem?_map,List.getElem?_take,if_pos (by omega),List.getElem?_map,gE_ hj,e5]
    show some (kvAt keys items (q:Int)).1=_
    rw[kat q hq]
   rw[dT_ (show (((j+1:Nat):Int) > 0) by omega),cT_,w,e6,oB_]
   rw[dF_ (fun e=>?_),cF_]
   have hpq:p=q:=(List.getElem_inj hn).1 e
   have:=(List.getElem_inj onod).1 (show o[j+1]=o[j] by rw[e1,e5,hpq])
   omega
 .right
  obtain rfl:i=o.length:=by omega
  refine ⟨_,?_,rfl⟩
  rw[dF_ (show ¬(o.length:Int)<(o.length:Int) by omega),cF_]
  rw[show (o.map (kvAt keys items)).take o.length=o.map (kvAt keys items) from List.take_of_length_le (by simp)];rfl
theorem qs0 {ks:List ByteArray} {vs:List Val} (h:ks.length=vs.length) (hn:ks.Nodup):SP (q1l [] (ks.zip vs))/\(∀p,p∈q1l [] (ks.zip vs)↔p∈ks.zip vs)/\(q1l [] (ks.zip vs)).length=ks.length:=by
 obtain ⟨a,b,c⟩:=q7z (ks.zip vs) ([]:List (ByteArray×Val)) List.Pairwise.nil (by rw[List.map_fst_zip (by omega)];exact hn) (fun _ _ q hq=>absurd hq mN_)
 refine ⟨a,fun p=>(b p).trans ⟨fun k=>k.elim (fun k=>absurd k mN_) id,.inr⟩,?_⟩
 rw[c,List.length_zip];simp;omega
open Go.RowKit
theorem q35 {α β:Type} (o:Option (α×β)):(o.bind fun y=>some (y.1,y.2))=o:=by cases o<;>rfl
theorem qi5 (l:List Val) (m:Nat) (hm:∀v∈l,v.items.length<=m) (hl:l.length*m<=100000) (hl2:l.length<=100000):q7 (gQ21 l) (0,[])=some (lV (l.flatMap Val.items),0):=by
 have:=qt (body:=gQ21 l) l (fun i (a:List Val)=>((i:Int),a)) (fun a r=>(lV (a++r.flatMap Val.items),(0:Int))) (fun a r=>a.length+r.length*m<=100000/\∀v∈r,v.items.length<=m) (s0:=(0,[])) (a:=[]) rfl ⟨by simpa using hl,hm⟩ (fun a _=>?_) (fun i x r a hi hx _ hq=>?_)
 .exact this
 .simp only[gQ21,dF_ (show ¬(l.length:Int)<l.length by omega),cF_,List.flatMap_nil,List.append_nil];rfl
 .left
  obtain ⟨h1,h2⟩:=hq
  rw[lC_,Nat.add_mul]at h1
  have hx2:=h2 x mS_
  refine ⟨a++x.items,⟨by rw[lA_];omega,fun v hv=>h2 v (mC_ _ hv)⟩,?_,by simp⟩
  simp only[gQ21,dT_ (show (i:Int)<l.length by omega),cT_,q9,hx,oB_,q5f (xs:=a) (ys:=x.items) (by_:=80) (by decide) (by omega),qg hi (show l.length<=9223372036854775807 by omega)]
noncomputable def q36 (l n:Val):Val×Int :=
 if l.kind=4/\l.items.length=0 then (vZ,16) else if l.kind=6\/n.kind=6 then (vU,0) else (l.items.getD (n.num % (l.items.length:Int)).toNat vZ,0)
theorem qr7 (l n:Val) (hk:l.kind=4\/l.kind=6) (hl:l.items.length<=100000) (hn:n.kind≠6->NumPlain.validB n.num=true):gQ16 l n=some (q36 l n):=by
 unfold gQ16 q36
 rcases hk with hk|hk
 .rw[dT_ hk,cT_]
  by_cases h0:l.items.length=0
  .rw[dT_ (show (l.items.length:Int)=0 by omega),cT_,if_pos ⟨hk,h0⟩]
  rw[dF_ (show ¬(l.items.length:Int)=0 by omega),cF_,if_neg (fun h=>h0 h.2),dF_ (show ¬l.kind=6 by omega),cF_]
  by_cases h6:n.kind=6
  .rw[dT_ h6,cT_,if_pos (.inr h6)];rfl
  rw[dF_ h6,cF_,if_neg (by omega),qsh (hn h6) (by omega) hl,oB_]
  have e1:=Int.emod_nonneg n.num (show (l.items.length:Int)≠0 by omega)
  have e2:=Int.emod_lt_of_pos n.num (show (0:Int)<l.items.length by omega)
  have hlt:(n.num % (l.items.length:Int)).toNat<l.items.length:=by omega
  have:=q9 l.items (n.num % (l.items.length:Int)).toNat
  rw[show (((n.num % (l.items.length:Int)).toNat:Nat):Int)=n.num % (l.items.length:Int) by omega]at this
  show (idx l.items (n.num % (l.items.length:Int))).bind _=_
  rw[this,List.getD_eq_getElem?_getD,gE_ hlt];rfl
 .rw[dF_ (show ¬l.kind=4 by omega),cF_,dT_ hk,cT_,if_neg (by omega),if_pos (.inl hk)];rfl
noncomputable def lenS (v:Val):Val:=vNum (if v.kind=3 then (Lib.runeCount v.str:Int) else v.items.length)
theorem qti (v:Val) (hs:v.str.size<=4096):gQ1w v=some (lenS v):=by
 unfold gQ1w lenS
 by_cases h:v.kind=3
 .rw[dT_ h,if_pos h,cT_]
  unfold gQ9d
  rw[show qer v.str=some (Lib.runeCount v.str:Int) from q1v (by omega)];rfl
 .rw[dF_ h,if_neg h,cF_];rfl
theorem qx0 (l:List Val) (hl:l.length<=100000) (h0:1<=l.length) (x:Val):gQ24 x l=some l.reverse:=by
 unfold gQ24
 rw[qy (by omega) (by omega)]
 have key:∀(n:Nat) (pre mid post:List Val),mid.length<=n->pre.length=post.length->pre.length+mid.length+post.length<=100000->q7 gQ25 ((pre.length:Int),((pre.length+mid.length:Nat):Int) - 1,pre++mid++post)=some (pre++mid.reverse++post):=by
  intro n
  induction n with
  | zero =>
   intro pre mid post h1 h2 h3
   have:mid=[]:=List.length_eq_zero_iff.1 (by omega)
   subst this
   refine q2c ?_
   simp only[gQ25]
   rw[dF_ (by simp only[List.length_nil];omega),cF_];rfl
  | succ n ih =>
   intro pre mid post h1 h2 h3
   cases mid with
   | nil =>
    refine q2c ?_
    simp only[gQ25]
    rw[dF_ (by simp only[List.length_nil];omega),cF_];rfl
   | cons a t =>
    rcases List.eq_nil_or_concat t with rfl|⟨t,b,rfl⟩
    .refine q2c ?_
     simp only[gQ25]
     rw[dF_ (by simp only[l1_];omega),cF_];rfl
    .rw[List.concat_eq_append]at h1 h3 ⊢
     simp only[lC_,lA_,List.length_nil]at h1 h3
     have e0:pre++(a::(t++[b]))++post=(pre++a::t)++b::post:=by simp
     have i1:idx (pre++(a::(t++[b]))++post) (((pre.length+(a::(t++[b])).length:Nat):Int) - 1)=some b:=by
      rw[show ((pre.length+(a::(t++[b])).length:Nat):Int) - 1=(((pre++a::t).length:Nat):Int) by simp;omega,q9,e0];simp
     have i2:idx (pre++(a::(t++[b]))++post) (pre.length:Int)=some a:=by rw[q9];simp
     have u1:upd (pre++(a::(t++[b]))++post) (pre.length:Int) b=pre++(b::(t++[b]))++post:=by
      unfold upd;rw[Int.toNat_natCast];simp
     have u2:upd (pre++(b::(t++[b]))++post) (((pre.length+(a::(t++[b])).length:Nat):Int) - 1) a=(pre++[b])++t++(a::post):=by
      unfold upd
      rw[show ((pre.length+(a::(t++[b])).length:Nat):Int) - 1=(((pre++b::t).length:Nat):Int) by simp;omega,Int.toNat_natCast,show pre++(b::(t++[b]))++post=(pre++b::t)++b::post by simp,List.set_append_right _ _ (Nat.le_refl _)]
      simp
     have i3:idx (pre++(b::(t++[b]))++post) (((pre.length+(a::(t++[b])).length:Nat):Int) - 1)=some b:=by
      rw[show ((pre.length+(a::(t++[b])).length:Nat):Int) - 1=(((pre++b::t).length:Nat):Int) by simp;omega,q9,show pre++(b::(t++[b]))++post=(pre++b::t)++b::post by simp];simp
     rw[q4u (s':=(((pre++[b]).length:Int),(((pre++[b]).length+t.length:Nat):Int) - 1,(pre++[b])++t++(a::post))) (by
      simp only[gQ25]
      rw[dT_ (by simp only[lC_,lA_,List.length_nil];omega),cT_,i1,oB_,i2,oB_,oB_,u1,i3,oB_,u2]
      rw[qy (by omega) (by omega),qy (by simp only[lC_,lA_,List.length_nil];omega) (by simp only[lC_,lA_,List.length_nil];omega)]
      congr 2
      refine Prod.ext ?_ (Prod.ext ?_ rfl)
      .simp
      .simp;omega)]
     rw[ih (pre++[b]) t (a::post) (by omega) (by simp;omega) (by simp;omega)]
     simp
 have:=key l.length [] l [] (Nat.le_refl _) rfl (by simp;omega)
 simpa using this
noncomputable def q77 (v a b:Val):Val×Int:=if a.num<0\/b.num<a.num\/b.num > (v.items.length:Int) then (vZ,16) else (lV ((v.items.drop a.num.toNat).take (b.num.toNat-a.num.toNat)),0)
noncomputable def q9w (v:Val):Val:=lV ((q2o cmpS (v.items.map Val.str)).map strV)
theorem qjz (v:Val) (hl:v.keys.length<=100000):q7 (gQ2b v) (0,[])=some (lV (v.keys.map vText),0):=by
 have:=qt (body:=gQ2b v) v.keys (fun i (a:List Val)=>((i:Int),a)) (fun a r=>(lV (a++r.map vText),(0:Int))) (fun a r=>a.length+r.length<=100000) (s0:=(0,[])) (a:=[]) rfl (by simpa using hl) (fun a _=>?_) (fun i x r a hi hx _ hq=>?_)
 .exact this
 .simp only[gQ2b,dF_ (show ¬(v.keys.length:Int)<v.keys.length by omega),cF_,List.map_nil,List.append_nil];rfl
 .left
  rw[lC_]at hq
  refine ⟨a++[vText x],by rw[lA_,l1_];omega,?_,by simp⟩
  simp only[gQ2b,gQa5,dT_ (show (i:Int)<v.keys.length by omega),cT_,q9,hx,oB_,q1k a _ (m:=80) (n:=100001) (by decide) (by omega) (by decide),qg hi (show v.keys.length<=9223372036854775807 by omega)]
noncomputable def q57 (m k:Val) (d:Option Val):Val×Int :=
 if m.kind=6\/k.kind=6 then (vU,0) else bif hasB m.keys k.str then (look m.keys m.items k.str,0) else match d with
  | some x=>(x,0)
  | none=>(vZ,16)
theorem qtq (m k:Val) (t:List Val) (ht:t.length<=1) (hm:Vok m) (h5:m.kind≠6->m.kind=5):gQ28 (m::k::t)=some (q57 m k t[0]?):=by
 unfold gQ28 q57
 have i0:idx (m::k::t) 0=some m:=rfl
 have i1:idx (m::k::t) 1=some k:=rfl
 have i2:idx (m::k::t) 2=t[0]?:=by cases t<;>rfl
 simp only[i0,i1,i2,oB_]
 by_cases h6:m.kind=6
 .rw[dT_ h6,if_pos (.inl h6)];rfl
 rw[dF_ h6,cF_]
 by_cases k6:k.kind=6
 .rw[dT_ k6,if_pos (.inr k6)];rfl
 rw[dF_ k6,cF_,if_neg (fun h=>h.elim h6 k6)]
 have h:=h5 h6
 rw[qsf m k.str hm.1 h (hm.shape.2.2.2.2.2.2.1 h) hm.rising,oB_]
 cases hasB m.keys k.str with
 | true=>rfl
 | false =>
  rw[cF_,cF_]
  cases t with
  | nil=>rw[dF_ (show ¬(([m,k]:List Val).length:Int)=3 by simp)];rfl
  | cons x r =>
   have:r=[]:=by simpa using ht
   subst this;rfl
noncomputable def zipE:List ByteArray->List Val->Option (List ByteArray)
 | acc,[]=>some acc
 | acc,x::r=>if x.kind=6 then zipE acc r else bif hasB acc x.str then none else zipE (acc++[x.str]) r
noncomputable def zipS (k v:Val):Val×Int :=
 if k.kind=4/\v.kind=4/\k.items.length≠v.items.length then (vZ,1) else match zipE [] k.items with
  | none=>(vZ,8)
  | some ks=>if qc k=false\/v.kind=6 then (vU,0) else (q1m (q1l [] (ks.zip v.items)),0)
theorem q109 (k v:Val) (hk:k.Fits) (hl:k.items.length<=100000) (hv:∀x∈v.items,x.Fits) (hkv:qc k=true->v.kind≠6->k.items.length=v.items.length) :
  q7 (gQ34 k v) (0,[])=some (match zipE [] k.items with
  | none=>(vZ,8)
  | some ks=>if qc k=false\/v.kind=6 then (vU,0) else (q1m (q1l [] (ks.zip v.items)),0)):=by
 refine qt (body:=gQ34 k v) k.items (fun i (a:List ByteArray)=>((i:Int),a)) (fun a r=>match zipE a r with
  | none=>(vZ,8)
  | some ks=>if qc k=false\/v.kind=6 then (vU,0) else (q1m (q1l [] (ks.zip v.items)),0)) (fun a r=>a.length+r.length<=k.items.length/\a.Nodup/\(qc k=true->a.length+r.length=k.items.length/\∀x∈r,x.kind≠6)) (s0:=(0,[])) (a:=[]) rfl ⟨by simp,List.nodup_nil,fun h=>⟨by simp,fun x hx=>q24 (q3g h x hx)⟩⟩ (fun a hq=>?_) (fun i x r a hi hx _ hq=>?_)
 .simp only[gQ34,dF_ (show ¬(k.items.length:Int)<k.items.length by omega),cF_,qef k hk,oB_,zipE]
  obtain ⟨h1,h2,h3⟩:=hq
  cases hn:qc k with
  | false=>rw[if_pos (.inl rfl)];rfl
  | true =>
   rw[nT_,cF_]
   by_cases h6:v.kind=6
   .rw[dT_ h6,if_pos (.inr h6)];rfl
   rw[dF_ h6,cF_,if_neg (fun h=>h.elim (fun h=>absurd h (by decide)) h6)]
   have e:=(h3 hn).1
   rw[List.length_nil,Nat.add_zero]at e
   have e2:=hkv hn h6
   rw[qkp a v.items (by omega) (by omega) h2 hv];rfl
 .obtain ⟨h1,h2,h3⟩:=hq
  rw[lC_]at h1
  simp only[gQ34,dT_ (show (i:Int)<k.items.length by omega),cT_,q9,hx,oB_,zipE,qg hi (show k.items.length<=9223372036854775807 by omega),qdi a x.str (by omega),q1k a x.str (m:=16) (n:=100001) (by decide) (by omega) (by decide)]
  by_cases h6:x.kind=6
  .left
   rw[dT_ h6,cT_,if_pos h6]
   exact ⟨a,⟨by omega,h2,fun hn=>absurd h6 ((h3 hn).2 x mS_)⟩,rfl,rfl⟩
  rw[dF_ h6,cF_,if_neg h6]
  cases hb:hasB a x.str with
  | true=>right;rfl
  | false =>
   left
   rw[cF_,cF_]
   refine ⟨a++[x.str],⟨by rw[lA_,l1_];omega,?_,fun hn=>⟨by have:=(h3 hn).1;rw[lC_]at this;rw[lA_,l1_];omega,fun y hy=>(h3 hn).2 y (mC_ _ hy)⟩⟩,rfl,rfl⟩
   rw[List.nodup_append]
   refine ⟨h2,by simp,fun y hy z hz e=>?_⟩
   have:z=x.str:=by simpa using hz
   subst this;subst e
   rw[q52.2 hy]at hb;cases hb
theorem q10b (k v:Val) (hk:Vok k) (hv:Vok v) (k4:k.kind=4\/k.kind=6) (v4:v.kind=4\/v.kind=6) (hl:k.items.length<=100000):gQ33 k v=some (zipS k v):=by
 have h1:∀s,gQ35 k v s=gQ34 k v s:=fun _=>rfl
 have h2:∀s,gQ36 k v s=gQ34 k v s:=fun _=>rfl
 have hvi:=hv.1.parts.2.2.2.2.2.2
 unfold gQ33 zipS
 rw[show gQ35 k v=gQ34 k v from funext h1,show gQ36 k v=gQ34 k v from funext h2]
 by_cases hd:k.kind=4/\v.kind=4/\k.items.length≠v.items.length
 .rw[if_pos hd,dT_ hd.1,dT_ hd.2.1,dF_ (show ¬(k.items.length:Int)=v.items.length by have:=hd.2.2;omega)];rfl
 rw[if_neg hd]
 have hz:=q109 k v hk.1 hl hvi (fun hn h6=>by
  have:=q24 hn
  by_cases e:k.items.length=v.items.length
  .exact e
  .exact absurd ⟨by omega,by omega,e⟩ hd)
 by_cases hk4:k.kind=4
 .rw[dT_ hk4,cT_]
  by_cases hv4:v.kind=4
  .rw[dT_ hv4,cT_,dT_ (show (k.items.length:Int)=v.items.length by
    by_cases e:k.items.length=v.items.length
    .omega
    .exact absurd ⟨hk4,hv4,e⟩ hd),nT_,cF_,hz]
  .rw[dF_ hv4,cF_,hz]
 .rw[dF_ hk4,cF_,hz]
def q2n (m ps:List (ByteArray×Val)):List (ByteArray×Val):=ps.foldl (fun m p=>mput m p.1 p.2) m
def q48 (m:List (ByteArray×Val)) (l:List Val):List (ByteArray×Val):=l.foldl (fun m v=>q2n m (v.keys.zip v.items)) m
theorem qkw {m:List (ByteArray×Val)} {k:ByteArray}:mhas m k=true↔k∈m.map (·.1):=by
 induction m with
 | nil=>simp[mhas,mget]
 | cons p r ih =>
  unfold mhas at ih ⊢
  obtain ⟨a,b⟩:=p
  rw[mget]
  by_cases h:k=a
  .rw[if_pos h];simp[h]
  .rw[if_neg h,ih];simp[h]
theorem qf0 {m:List (ByteArray×Val)} {k:ByteArray} {v:Val}:(mput m k v).map (·.1)=if mhas m k=true then m.map (·.1) else m.map (·.1)++[k]:=by
 induction m with
 | nil=>simp[mhas,mget,mput]
 | cons p r ih =>
  obtain ⟨a,b⟩:=p
  rw[mput]
  by_cases h:k=a
  .rw[if_pos h,if_pos (by simp[mhas,mget,h])];rfl
  .rw[if_neg h]
   have:mhas ((a,b)::r) k=mhas r k:=by simp[mhas,mget,h]
   rw[this,List.map_cons,ih]
   split<;>rfl
theorem qf1 {m:List (ByteArray×Val)} {k:ByteArray} {v:Val}:∀p∈mput m k v,p=(k,v)\/p∈m:=by
 induction m with
 | nil=>intro p h;simp[mput]at h;exact .inl h
 | cons q r ih =>
  obtain ⟨a,b⟩:=q
  intro p h
  rw[mput]at h
  by_cases e:k=a
  .rw[if_pos e]at h
   rcases List.mem_cons.1 h with rfl|h
   .exact .inl (by rw[e])
   .exact .inr (mC_ _ h)
  .rw[if_neg e]at h
   rcases List.mem_cons.1 h with rfl|h
   .exact .inr mS_
   .exact (ih p h).imp id (mC_ _)
structure MapG (n:Nat) (m:List (ByteArray×Val)):Prop where
 len:m.length<=n
 nd:(m.map (·.1)).Nodup
 fits:∀p∈m,p.2.Fits
theorem MapG.put {n:Nat} {m:List (ByteArray×Val)} (h:MapG n m) {k:ByteArray} {v:Val} (hv:v.Fits):MapG (n+1) (mput m k v):=by
 have hk:=qf0 (m:=m) (k:=k) (v:=v)
 refine ⟨?_,?_,fun p hp=>?_⟩
 .have e:(mput m k v).length=((mput m k v).map (·.1)).length:=by simp
  have:=h.len
  rw[e,hk];split<;>simp<;>omega
 .rw[hk]
  split
  .exact h.nd
  .rename_i hn
   rw[List.nodup_append]
   refine ⟨h.nd,by simp,fun y hy z hz e=>hn (qkw.2 ?_)⟩
   have:z=k:=by simpa using hz
   subst this;subst e;exact hy
 .rcases qf1 p hp with rfl|hp
  .exact hv
  .exact h.fits p hp
theorem qlz (x:Val) (s:Int×List (ByteArray×Val)×List ByteArray) (hk:x.keys.length=x.items.length) (hl:x.keys.length<=100000) (hf:∀y∈x.items,y.Fits) (m:List (ByteArray×Val)) {n:Nat} (hm:MapG n m) (hn:n+x.keys.length<=100000) :
  q7 (gQ2d x s) (0,m,m.map (·.1))=some (.inl (IntKind.i64.wrap (s.1+1),q2n m (x.keys.zip x.items),(q2n m (x.keys.zip x.items)).map (·.1)))/\MapG (n+x.keys.length) (q2n m (x.keys.zip x.items)):=by
 have zl:(x.keys.zip x.items).length=x.keys.length:=by rw[List.length_zip];omega
 constructor
 .refine qt (body:=gQ2d x s) (x.keys.zip x.items) (fun i (a:List (ByteArray×Val))=>((i:Int),a,a.map (·.1))) (fun a r=>.inl (IntKind.i64.wrap (s.1+1),q2n a r,(q2n a r).map (·.1))) (fun a r=>MapG (100000-r.length) a/\r.length<=100000/\∀p∈r,p.2.Fits) rfl ⟨⟨by have:=hm.len;rw[zl];omega,hm.nd,hm.fits⟩,by omega,fun p hp=>hf p.2 (List.of_mem_zip hp).2⟩ (fun a hq=>?_) (fun i p r a hi hx _ hq=>?_)
  .simp only[gQ2d,zl,dF_ (show ¬(x.keys.length:Int)<x.keys.length by omega),cF_];rfl
  .left
   obtain ⟨g,h1,h2⟩:=hq
   rw[lC_]at g h1
   obtain ⟨e1,e2⟩:=q8p hx
   rw[zl]at hi
   have hp:p.2.Fits:=h2 p mS_
   have g2:=g.put (k:=p.1) hp
   refine ⟨mput a p.1 p.2,⟨⟨by have:=g2.len;omega,g2.nd,g2.fits⟩,by omega,fun q hq=>h2 q (mC_ _ hq)⟩,?_,rfl⟩
   have ha:=q1k (a.map (·.1)) p.1 (m:=16) (n:=100001) (by decide) (by have:=g.len;simp;omega) (by decide)
   simp only[gQ2d,dT_ (show (i:Int)<x.keys.length by omega),cT_,q9,e1,e2,oB_,qg hi (show x.keys.length<=9223372036854775807 by omega),ha,qf0]
   cases mhas a p.1<;>rfl
 .have:∀(ps:List (ByteArray×Val)) (m:List (ByteArray×Val)) (n:Nat),MapG n m->(∀p∈ps,p.2.Fits)->MapG (n+ps.length) (q2n m ps):=by
   intro ps
   induction ps with
   | nil=>intro m n h _;exact h
   | cons p r ih =>
    intro m n h hp
    have:=ih (mput m p.1 p.2) (n+1) (h.put (hp p mS_)) (fun q hq=>hp q (mC_ _ hq))
    rw[lC_,show n+(r.length+1)=n+1+r.length by omega]
    exact this
  have:=this (x.keys.zip x.items) m n hm (fun p hp=>hf p.2 (List.of_mem_zip hp).2)
  rw[zl]at this;exact this
theorem qu8 {m:List (ByteArray×Val)} (hn:(m.map (·.1)).Nodup) {p:ByteArray×Val} (hp:p∈m) (z:Val):q3h m p.1 z=p.2:=by
 unfold q3h
 induction m with
 | nil=>exact absurd hp mN_
 | cons q r ih =>
  obtain ⟨a,b⟩:=q
  rw[List.map_cons,List.nodup_cons]at hn
  rw[mget]
  rcases List.mem_cons.1 hp with rfl|hp
  .rw[if_pos rfl];rfl
  .rw[if_neg (fun e=>hn.1 (by rw[←e];exact List.mem_map.2 ⟨p,hp,rfl⟩)),ih hn.2 hp]
theorem q10a {α β:Type} (m:List (α×β)):(m.map (·.1)).zip (m.map (·.2))=m:=by
 induction m with
 | nil=>rfl
 | cons p r ih=>rw[List.map_cons,List.map_cons,List.zip_cons_cons,ih]
theorem qvj (i:Int) (m:List (ByteArray×Val)) (hm:MapG 100000 m):q7 (gQ2e (i,m,m.map (·.1))) (0,[])=some (.inr (q1m (q1l [] m),0)):=by
 have:=qt (body:=gQ2e (i,m,m.map (·.1))) m (fun j (a:List Val)=>((j:Int),a)) (fun a r=>(.inr (q1m (q1l [] m),0):(Int×List (ByteArray×Val)×List ByteArray)⊕(Val×Int))) (fun a r=>a++r.map (·.2)=m.map (·.2)/\∀p∈r,p∈m) (s0:=(0,[])) (a:=[]) rfl ⟨rfl,fun _ h=>h⟩ (fun a hq=>?_) (fun j p r a hi hx _ hq=>?_)
 .exact this
 .obtain ⟨h1,_⟩:=hq
  rw[List.map_nil,List.append_nil]at h1
  subst h1
  simp only[gQ2e,lM_,dF_ (show ¬(m.length:Int)<m.length by omega),cF_]
  rw[qkp (m.map (·.1)) (m.map (·.2)) (by simp) (by have:=hm.len;simpa using this) hm.nd (fun x hx=>by
   obtain ⟨p,hp,rfl⟩:=List.mem_map.1 hx
   exact hm.fits p hp),q10a];rfl
 .left
  obtain ⟨h1,h2⟩:=hq
  have hp:=h2 p mS_
  have hlen:a.length<100001:=by
   have:=congrArg List.length h1
   simp at this
   have:=hm.len;omega
  refine ⟨a++[p.2],⟨by rw[←h1];simp,fun q hq=>h2 q (mC_ _ hq)⟩,?_,rfl⟩
  have e:(m.map (·.1))[j]?=some p.1:=by rw[List.getElem?_map,hx];rfl
  simp only[gQ2e,lM_,dT_ (show (j:Int)<m.length by omega),cT_,q9,e,oB_,qu8 hm.nd hp,q1k a p.2 (m:=80) (n:=100001) (by decide) hlen (by decide),qg hi (show m.length<=9223372036854775807 by have:=hm.len;omega)]
theorem qu7 (l:List Val) (m:Nat) (hl:l.length*m<=100000) (hl2:l.length<=100000) (h:∀v∈l,v.keys.length=v.items.length/\v.keys.length<=m/\∀y∈v.items,y.Fits):q7 (gQ2c l) (0,[],[])=some (q1m (q1l [] (q48 [] l)),0)/\MapG (l.length*m) (q48 [] l):=by
 have hG:∀(r:List Val) (a:List (ByteArray×Val)) (n:Nat),MapG n a->n+r.length*m<=100000->(∀v∈r,v.keys.length=v.items.length/\v.keys.length<=m/\∀y∈v.items,y.Fits)->MapG (n+r.length*m) (q48 a r):=by
  intro r
  induction r with
  | nil=>intro a n h _ _;simpa [q48] using h
  | cons x r ih =>
   intro a n hg hn hv
   rw[lC_,Nat.add_mul]at hn ⊢
   obtain ⟨v1,v2,v3⟩:=hv x mS_
   have g1:=(qlz x (0,[],[]) v1 (by omega) v3 a hg (by omega)).2
   have:=ih (q2n a (x.keys.zip x.items)) (n+m) ⟨by have:=g1.len;omega,g1.nd,g1.fits⟩ (by omega) (fun v hv2=>hv v (mC_ _ hv2))
   rw[show n+(r.length*m+1*m)=n+m+r.length*m by omega]
   exact this
 have h0:MapG 0 ([]:List (ByteArray×Val)):=⟨Nat.le_refl _,List.nodup_nil,fun _ h=>absurd h mN_⟩
 have hg:=hG l [] 0 h0 (by omega) h
 refine ⟨?_,by simpa using hg⟩
 refine qt (body:=gQ2c l) l (fun i (a:List (ByteArray×Val))=>((i:Int),a,a.map (·.1))) (fun a r=>(q1m (q1l [] (q48 a r)),(0:Int))) (fun a r=>MapG (100000-r.length*m) a/\r.length*m<=100000/\∀v∈r,v.keys.length=v.items.length/\v.keys.length<=m/\∀y∈v.items,y.Fits) rfl ⟨⟨by simp,h0.nd,h0.fits⟩,hl,h⟩ (fun a hq=>?_) (fun i x r a hi hx _ hq=>?_)
 .simp only[gQ2c,dF_ (show ¬(l.length:Int)<l.length by omega),cF_]
  exact qvj _ a ⟨by have:=hq.1.len;simpa using this,hq.1.nd,hq.1.fits⟩
 .left
  obtain ⟨g,g1,g2⟩:=hq
  rw[lC_,Nat.add_mul]at g g1
  obtain ⟨v1,v2,v3⟩:=g2 x mS_
  obtain ⟨p1,p2⟩:=qlz x ((i:Int),a,a.map (·.1)) v1 (by omega) v3 a g (by omega)
  refine ⟨q2n a (x.keys.zip x.items),⟨⟨by have:=p2.len;omega,p2.nd,p2.fits⟩,by omega,fun v hv=>g2 v (mC_ _ hv)⟩,?_,rfl⟩
  simp only[gQ2c,dT_ (show (i:Int)<l.length by omega),cT_,q9,hx,oB_]
  rw[p1]
  simp only[qg hi (show l.length<=9223372036854775807 by omega)]
def q41:List Val->Val
 | []=>vZ
 | x::r=>if x.kind=0 then q41 r else x
theorem qqi (l:List Val) (hl:l.length<=100000):q7 (gQ1o l) 0=some (q41 l,0):=by
 refine qt (body:=gQ1o l) l (fun i (_:Unit)=>(i:Int)) (fun _ r=>(q41 r,(0:Int))) (fun _ _=>True) (a:=()) rfl trivial (fun _ _=>?_) (fun i x r _ hi hx _ _=>?_)
 .simp only[gQ1o,dF_ (show ¬(l.length:Int)<l.length by omega),cF_];rfl
 .simp only[gQ1o,dT_ (show (i:Int)<l.length by omega),cT_,q9,hx,oB_,q41,qg hi (show l.length<=9223372036854775807 by omega)]
  by_cases h:x.kind=0
  .left;rw[dT_ h,if_pos h];exact ⟨(),trivial,rfl,rfl⟩
  .right;rw[dF_ h,if_neg h];rfl
open Go.RowKit
noncomputable def tocS (k:Int) (v:Val):Val×Int:=if v.kind=0 then (v,0) else cvS k v
theorem toc_eq {k:Int} (hk:k=1\/k=2\/k=3) {v:Val} (h:Ck v):toE v (Ty.mk k [] [])=tocS k v:=by
 unfold tocS
 by_cases h0:v.kind=0
 .rw[if_pos h0]
  have e:toS (Ty.mk k [] []) v=(v,0):=by rw[q5y,if_pos (.inr (.inl h0))]
  rw[qg4 (by rw[e]) (by rw[e];exact h.ck),e]
 .rw[if_neg h0,qnf hk h h0]
theorem qzl {k:Int} (hk:k=1\/k=2\/k=3) {v:Val} (h:Ck v):gQ04 v (Ty.mk k [] [])=some (tocS k v):=by
 rw[qgo v _ (qcg (by omega)) h.ok,toc_eq hk h]
noncomputable def a0 (l:List Val):Val:=l.getD 0 vZ
noncomputable def a1 (l:List Val):Val:=l.getD 1 vZ
noncomputable def a2 (l:List Val):Val:=l.getD 2 vZ
noncomputable def apS (k:Nm) (l:List Val):Val×Int :=
 match k with
 | .nAbs=>(vNum (a0 l).num.natAbs,0)
 | .nMax=>(extS 1 (a0 l) (l.drop 1),0)
 | .nMin=>(extS (-1) (a0 l) (l.drop 1),0)
 | .nRange=>if l.length=1 then q3s 0 (a0 l).num else q3s (a0 l).num (a1 l).num
 | .nSum=>sumS 0 (a0 l).items
 | .nEndswith=>(bV (q7x (a0 l).str (a1 l).str),0)
 | .nStartswith=>(bV (begB (a0 l).str (a1 l).str),0)
 | .nJoin=>(vText (qv (q1b (a1 l).items) (a0 l).str),0)
 | .nLower=>(vText (q5g 65 90 32 (a0 l).str),0)
 | .nUpper=>(vText (q5g 97 122 (-32) (a0 l).str),0)
 | .nReplace=>q59 (a0 l).str (a1 l).str (a2 l).str
 | .nSplit=>q5b (a0 l).str (a1 l).str
 | .nTrim=>(vText (q6m (a0 l).str),0)
 | .nContains=>if (a0 l).kind=6 then (vU,0) else (q4g (a0 l).items (a1 l),0)
 | .nDistinct=>if (a0 l).kind=6 then (vU,0) else (q2i [] [] (a0 l).items,0)
 | .nFlatten=>if (a0 l).kind=6 then (vU,0) else match q15 (a0 l).items with
  | some z=>(lV z,0)
  | none=>(vU,0)
 | .nIndex=>if (a0 l).kind=6 then (vU,0) else q2q (a1 l) 0 (a0 l).items
 | .nKeys=>(lV ((a0 l).keys.map vText),0)
 | .nValues=>(lV (a0 l).items,0)
 | .nLookup=>q57 (a0 l) (a1 l) l[2]?
 | .nZipmap=>zipS (a0 l) (a1 l)
 | .nMerge=>(q1m (q1l [] (q48 [] l)),0)
 | .nCoalesce=>(q41 l,0)
 | .nTobool=>tocS 1 (a0 l)
 | .nTonumber=>tocS 2 (a0 l)
 | .nTostring=>tocS 3 (a0 l)
 | .nConcat=>(lV (l.flatMap Val.items),0)
 | .nElement=>q36 (a0 l) (a1 l)
 | .nLength=>(lenS (a0 l),0)
 | .nReverse=>(lV (a0 l).items.reverse,0)
 | .nSlice=>q77 (a0 l) (a1 l) (a2 l)
 | .nSort=>(q9w (a0 l),0)
theorem Ck.str_le {v:Val} (h:Ck v):v.str.size<=4096:=by
 have:=(qbv h.ok.2.choose_spec.node).2.2.1
 unfold vtext at this
 by_cases c:4096<v.str.size
 .rw[if_pos c]at this;cases this
 .omega
theorem Ck.num_ok {v:Val} (h:Ck v) (h2:v.kind=2):NumPlain.validB v.num=true:=(qbv h.ok.2.choose_spec.node).2.1 h2
theorem Ck.fits {v:Val} (h:Ck v):v.Fits:=h.ok.1
theorem q16 (v:Val):v.items.length<=q2k v:=by have:=q9m v.items;rw[q6f];omega
theorem q56 {l:List Val} (hl:l.length<=100000) (h:∀x∈l,x.Fits):(lV l).Fits :=
 .mk (by decide) (by decide) q42 (by omega) (by simp) (fun _ h=>absurd h mN_) h
theorem q6n {s:ByteArray} (h:s.size<=140737488351232):(vText s).Fits:=q43 (by decide) (by decide) h
theorem qa2 {n:Int} (h:-9223372036854775808<=n/\n<=9223372036854775807):(vNum n).Fits:=q43 (by decide) h q42
theorem qd1 (b:Bool):(bV b).Fits:=(qd0 b).ok.1
theorem q53 {v:Val} {k:Int}:isK v [k]=true↔v.kind=k\/v.kind=6:=by simp[isK]
theorem q20 {k:Nm} {l:List Val} (h:arOk k l=true) (h1:(spB k).least=1) (h2:(spB k).most=1):∃a,l=[a]:=by
 unfold arOk at h;rw[h1,h2]at h
 simp only[Bool.and_eq_true,decide_eq_true_eq]at h
 exact List.length_eq_one_iff.1 (by omega)
theorem q32 {k:Nm} {l:List Val} (h:arOk k l=true) (h1:(spB k).least=2) (h2:(spB k).most=2):∃a b,l=[a,b]:=by
 unfold arOk at h;rw[h1,h2]at h
 simp only[Bool.and_eq_true,decide_eq_true_eq]at h
 match l,h with
 | [a,b],_=>exact ⟨a,b,rfl⟩
 | [],h=>simp at h
 | [a],h=>simp at h
 | a::b::c::r,h=>simp at h;omega
theorem qab {k:Nm} {l:List Val} (h:arOk k l=true) (h1:(spB k).least=3) (h2:(spB k).most=3):∃a b c,l=[a,b,c]:=by
 unfold arOk at h;rw[h1,h2]at h
 simp only[Bool.and_eq_true,decide_eq_true_eq]at h
 match l,h with
 | [a,b,c],_=>exact ⟨a,b,c,rfl⟩
 | [],h=>simp at h
 | [a],h=>simp at h
 | [a,b],h=>simp at h
 | a::b::c::d::r,h=>simp at h;omega
theorem q4q {k:Nm} {l:List Val} (h:arOk k l=true) (h1:(spB k).least=1):∃a r,l=a::r:=by
 unfold arOk at h;rw[h1]at h
 simp only[Bool.and_eq_true,decide_eq_true_eq]at h
 cases l with
 | nil=>simp at h
 | cons a r=>exact ⟨a,r,rfl⟩
theorem q1u {k:Nm} {l:List Val} (h:q37 k l=true) {i:Nat} {x:Val} (hx:l[i]?=some x):fitK x (lett k i)=true:=by
 unfold q37 at h
 rw[List.all_eq_true]at h
 refine h (x,i) ?_
 rw[List.mem_zipIdx_iff_getElem?];exact hx
theorem q2z {k:Nm} {l:List Val} (h:q17 k l=false) {i:Nat} {x:Val} (hx:l[i]?=some x):x.kind≠6/\(lett k i=78\/lett k i=83->qc x=true):=by
 unfold q17 at h
 rw[List.any_eq_false]at h
 have:=h (x,i) (by rw[List.mem_zipIdx_iff_getElem?];exact hx)
 simp only[Bool.or_eq_true,decide_eq_true_eq,Bool.and_eq_true,not_or,not_and]at this
 refine ⟨this.1,fun hl=>?_⟩
 have:=this.2 hl
 simpa using this
theorem q51 {v:Val} (h:fitK v 110=true):v.kind=2\/v.kind=6:=q53.1 h
theorem q9a {v:Val} (h:fitK v 108=true):v.kind=4\/v.kind=6:=q53.1 h
theorem qau {v:Val} (h:fitK v 109=true):v.kind=5\/v.kind=6:=q53.1 h
theorem qdw {v:Val} (h:fitK v 78=true):(v.kind=4\/v.kind=6)/\∀x∈v.items,x.kind=2\/x.kind=6:=by
 have h:allK v 2=true:=h
 unfold allK at h
 rw[Bool.and_eq_true,List.all_eq_true]at h
 exact ⟨q53.1 h.1,fun x hx=>q53.1 (h.2 x hx)⟩
theorem q7y {v:Val} (h:fitK v 83=true):(v.kind=4\/v.kind=6)/\∀x∈v.items,x.kind=3\/x.kind=6:=by
 have h:allK v 3=true:=h
 unfold allK at h
 rw[Bool.and_eq_true,List.all_eq_true]at h
 exact ⟨q53.1 h.1,fun x hx=>q53.1 (h.2 x hx)⟩
theorem qbi {k:Nm} (h:(spB k).kinds.size=1) (i:Nat):lett k i=lett k 0:=by
 unfold lett;rw[h];simp
noncomputable def brS (k:Nm) (l:List Val):Option (Val×Int) :=
 match k with
 | .nAbs|.nMax|.nMin|.nRange|.nSum=>gQ2j (nmB k) l
 | .nEndswith|.nJoin|.nLower|.nReplace|.nSplit|.nStartswith|.nTrim|.nUpper=>gQ2y (nmB k) l
 | .nContains|.nDistinct|.nFlatten|.nIndex=>gQ2o (nmB k) l
 | .nKeys|.nLookup|.nMerge|.nValues|.nZipmap=>gQ2a (nmB k) l
 | .nCoalesce|.nTobool|.nTonumber|.nTostring=>gQ1n (nmB k) l
 | _=>gQ20 (nmB k) l
theorem qh3 (k:Nm) (l:List Val):gQ0x (nmB k) l=brS k l:=by
 rw[←q35 (brS k l)]
 cases k<;>rfl
def Ap (k:Nm):Prop:=∀l:List Val,Args l->arOk k l=true->q37 k l=true->((spB k).strict&&q17 k l)=false->brS k l=some (apS k l)/\(apS k l).1.Fits
theorem Args.at {l:List Val} (h:Args l) {i:Nat} {x:Val} (hx:l[i]?=some x):Ck x/\q2k x<=400:=⟨h.ck x (List.mem_of_getElem? hx),h.nodes x (List.mem_of_getElem? hx)⟩
theorem q8d {v:Val} (h:Ck v) (h2:v.kind=2):-9007199254740992<=v.num/\v.num<=9007199254740992:=(q2w v.num).1 (h.num_ok h2)
theorem ap_abs:Ap .nAbs:=by
 intro l ha hb hf ho
 obtain ⟨a,rfl⟩:=q20 hb rfl rfl
 have c:=(ha.at (i:=0) rfl).1
 have o:=q2z (show q17 .nAbs [a]=false from ho) (i:=0) rfl
 have f:=q51 (q1u hf (i:=0) rfl)
 have b:=q8d c (by omega)
 refine ⟨?_,qa2 (by show _/\_;simp only[a0,List.getD_cons_zero];omega)⟩
 show (some (vNum (if IntKind.i64.wrap (0-a.num) > a.num then IntKind.i64.wrap (0-a.num) else a.num),(0:Int)))=some (vNum a.num.natAbs,0)
 rw[qy (by omega) (by omega)]
 congr 3
 split<;>omega
theorem qas (s:Int):∀(r:List Val) (x:Val),extS s x r=x\/extS s x r∈r
 | [],x=>.inl rfl
 | v::r,x=>by
  rw[extS]
  rcases qas s r (if s*v.num > s*x.num then v else x) with h|h
  .rw[h];split
   .exact .inr mS_
   .exact .inl rfl
  .exact .inr (mC_ _ h)
theorem qgy {k:Nm} {s:Int} (hk:(k=.nMax/\s=1)\/(k=.nMin/\s=-1)):Ap k:=by
 intro l ha hb hf ho
 have h1:(spB k).least=1:=by rcases hk with ⟨rfl,_⟩|⟨rfl,_⟩<;>rfl
 have h2:(spB k).strict=true:=by rcases hk with ⟨rfl,_⟩|⟨rfl,_⟩<;>rfl
 have h3:∀i,lett k i=110:=fun i=>by rw[qbi (by rcases hk with ⟨rfl,_⟩|⟨rfl,_⟩<;>rfl)];rcases hk with ⟨rfl,_⟩|⟨rfl,_⟩<;>rfl
 obtain ⟨a,r,rfl⟩:=q4q hb h1
 rw[h2,Bool.true_and]at ho
 have hv:∀v∈a::r,-9007199254740992<=v.num/\v.num<=9007199254740992:=fun v hv=>by
  obtain ⟨i,hi⟩:=List.getElem?_of_mem hv
  have o:=q2z ho hi
  have f:=q1u hf hi
  rw[h3]at f
  have f:=q51 f
  exact q8d (ha.ck v hv) (by omega)
 have hl:=ha.len
 rw[lC_]at hl
 have e:=qrf a r (s:=s) (by rcases hk with ⟨_,rfl⟩|⟨_,rfl⟩<;>decide) (by omega) hv
 have e2:apS k (a::r)=(extS s a r,0):=by rcases hk with ⟨rfl,rfl⟩|⟨rfl,rfl⟩<;>rfl
 rw[e2]
 constructor
 .have:brS k (a::r)=(gQ18 (a::r) s).bind fun y=>some (y,0):=by rcases hk with ⟨rfl,rfl⟩|⟨rfl,rfl⟩<;>rfl
  rw[this,e];rfl
 .rcases qas s r a with h|h
  .show (extS s a r).Fits;rw[h];exact (ha.ck a mS_).fits
  .exact (ha.ck _ (mC_ _ h)).fits
theorem qla {a b:Int} (ha:-9007199254740992<=a/\a<=9007199254740992) (hb:-9007199254740992<=b/\b<=9007199254740992):(q3s a b).1.Fits:=by
 unfold q3s
 split
 .exact q23
 .refine q56 (by simp[upTo];omega) fun x hx=>?_
  obtain ⟨i,hi,rfl⟩:=List.mem_map.1 hx
  have:=List.mem_range.1 hi
  exact qa2 (by omega)
theorem qoq:Ap .nRange:=by
 intro l ha hb hf ho
 obtain ⟨a,r,rfl⟩:=q4q hb rfl
 have ho:q17 .nRange (a::r)=false:=ho
 have c:=(ha.at (i:=0) rfl).1
 have o:=q2z ho (i:=0) rfl
 have f:=q51 (q1u hf (i:=0) rfl)
 have b:=c.num_ok (by omega)
 cases r with
 | nil =>
  refine ⟨?_,qla (by decide) (q8d c (show a.kind=2 by omega))⟩
  show ((gQ2g 0 a.num).bind fun y12=>some (y12.1,y12.2))=some (q3s 0 a.num)
  rw[q35,qlc (by decide) b]
 | cons x t =>
  have ht:t=[]:=by
   unfold arOk at hb
   have:(spB .nRange).most=2:=rfl
   rw[this]at hb
   simp only[Bool.and_eq_true,decide_eq_true_eq,lC_]at hb
   exact List.length_eq_zero_iff.1 (by omega)
  subst ht
  have c2:=(ha.at (i:=1) rfl).1
  have o2:=q2z ho (i:=1) rfl
  have f2:=q51 (q1u hf (i:=1) rfl)
  refine ⟨?_,qla (q8d c (show a.kind=2 by omega)) (q8d c2 (show x.kind=2 by omega))⟩
  show ((gQ2g a.num x.num).bind fun y12=>some (y12.1,y12.2))=some (q3s a.num x.num)
  rw[q35,qlc b (c2.num_ok (by omega))]
theorem qnc:∀(l:List Val) (n:Int),NumPlain.validB n=true->(sumS n l).1.Fits
 | [],n,h=>qa2 (by have:=(q2w n).1 h;omega)
 | v::r,n,h=>by
  rw[sumS];split
  .rename_i h2;exact qnc r _ h2
  .exact q23
theorem ap_sum:Ap .nSum:=by
 intro l ha hb hf ho
 obtain ⟨a,rfl⟩:=q20 hb rfl rfl
 have ho:q17 .nSum [a]=false:=ho
 obtain ⟨c,n⟩:=ha.at (i:=0) rfl
 have o:=q2z ho (i:=0) rfl
 have f:=qdw (q1u hf (i:=0) rfl)
 have hn:=q16 a
 have hk:=o.2 (.inl rfl)
 refine ⟨?_,qnc _ _ (by decide)⟩
 show q7 (gQ2k a) (0,0)=some (sumS 0 a.items)
 exact qz9 a (by omega) fun v hv=>(c.item v hv).num_ok (by
  have:=f.2 v hv
  have:=q24 (q3g hk v hv)
  omega)
theorem qjq (s:ByteArray) (l:List Val) (hs:s.size<=4096) (hl:l.length<=100000) (hv:∀v∈l,v.str.size<=4096):(qv (q1b l) s).size<=140737488351232:=by
 have h1:=qea ((q1b l).map (·.data.toList)) s.data.toList 4096 (fun x hx=>by
  obtain ⟨b,hb,rfl⟩:=List.mem_map.1 hx
  obtain ⟨v,hv1,rfl⟩:=List.mem_map.1 hb
  simpa using hv v hv1)
 have hs2:s.data.toList.length=s.size:=by simp
 rw[lM_,hs2]at h1
 have h2:(q1b l).length<=100000:=by simpa [q1b] using hl
 have h3:(q1b l).length*(4096+s.size)<=100000*8192:=Nat.mul_le_mul h2 (by omega)
 have e:(qv (q1b l) s).size=(Lib.join ((q1b l).map (·.data.toList)) s.data.toList).length:=by
  unfold qv;rw[←ByteArray.size_data,List.size_toArray]
 omega
theorem qh0 {k:Nm} {g:ByteArray->ByteArray->Option Bool} {S:ByteArray->ByteArray->Bool} (h1:(spB k).least=2) (h2:(spB k).most=2)
  (hb:∀a b,brS k [a,b]=(g a.str b.str).bind fun y4=>(gQ9f y4).bind fun y5=>some (y5,0)) (hs:∀a b,apS k [a,b]=(bV (S a.str b.str),0)) (hg:∀s t:ByteArray,s.size<=140737488351232->g s t=some (S s t)):Ap k:=by
 intro l ha har hf ho
 obtain ⟨a,b,rfl⟩:=q32 har h1 h2
 have c:=(ha.at (i:=0) rfl).1
 rw[hb,hs,hg _ _ (by have:=c.str_le;omega),oB_,qsb]
 exact ⟨rfl,qd1 _⟩
theorem qog:Ap .nEndswith:=qh0 rfl rfl (fun _ _=>rfl) (fun _ _=>rfl) fun s t h=>qz8 s t h
theorem qow:Ap .nStartswith:=qh0 rfl rfl (fun _ _=>rfl) (fun _ _=>rfl) fun s t h=>qw3 s t h
theorem qoj:Ap .nJoin:=by
 intro l ha hb hf ho
 obtain ⟨a,b,rfl⟩:=q32 hb rfl rfl
 obtain ⟨c,n⟩:=ha.at (i:=0) rfl
 obtain ⟨c2,n2⟩:=ha.at (i:=1) rfl
 have hn:=q16 b
 have hs:=c.str_le
 have hv:∀v∈b.items,v.str.size<=4096:=fun v hv=>(c2.item v hv).str_le
 refine ⟨?_,q6n (qjq _ _ hs (show b.items.length<=100000 by omega) hv)⟩
 show ((gQ1t a.str b.items).bind fun y12=>(gQa5 y12).bind fun y13=>some (y13,0))=some (vText (qv (q1b b.items) a.str),0)
 rw[qsv a.str b.items hs (by omega) hv];rfl
theorem qp9 (lo hi d:Int) (s:ByteArray):(q5g lo hi d s).size=s.size:=by
 unfold q5g
 rw[←ByteArray.size_data,List.size_toArray]
 simp[q63]
theorem qgx {k:Nm} {lo hi d:Int} (h1:(spB k).least=1) (h2:(spB k).most=1) (hr:(0<=lo/\lo<256)/\(0<=hi/\hi<256)/\(-256<d/\d<256))
  (hb:∀a,brS k [a]=(q9j a.str lo hi d).bind fun y15=>(gQa5 y15).bind fun y16=>some (y16,0)) (hs:∀a,apS k [a]=(vText (q5g lo hi d a.str),0)):Ap k:=by
 intro l ha har hf ho
 obtain ⟨a,rfl⟩:=q20 har h1 h2
 have c:=(ha.at (i:=0) rfl).1.str_le
 have e:q9j a.str lo hi d=some (q5g lo hi d a.str):=q1v ⟨by omega,hr⟩
 rw[hb,hs,e]
 exact ⟨rfl,q6n (by rw[qp9];omega)⟩
theorem qoo:Ap .nLower:=qgx rfl rfl (by decide) (fun _=>rfl) fun _=>rfl
theorem qp1:Ap .nUpper:=qgx rfl rfl (by decide) (fun _=>rfl) fun _=>rfl
theorem qcf {s:ByteArray} (h:s≠eS):1<=s.size:=by
 rcases Nat.eq_zero_or_pos s.size with h0|h0
 .exact absurd (qfq h0) h
 .exact h0
theorem qor:Ap .nReplace:=by
 intro l ha hb hf ho
 obtain ⟨a,b,c,rfl⟩:=qab hb rfl rfl
 have s1:=(ha.at (i:=0) rfl).1.str_le
 have s3:=(ha.at (i:=2) rfl).1.str_le
 constructor
 .show ((gQ2m a.str b.str c.str).bind fun y=>some (y.1,y.2))=some (q59 a.str b.str c.str)
  rw[q35,qwx a.str b.str c.str s1 s3 fun h=>by
   have:=Lib.countB_le b.str (qcf h) a.str.size a.str (Nat.le_refl _)
   omega]
 .show (q59 a.str b.str c.str).1.Fits
  unfold q59
  split
  .exact q23
  split
  .exact q23
  .exact q6n (by omega)
theorem qbx {s t:ByteArray} (h:s≠eS):(q2l t s).length<=t.size+1:=by
 have h1:=Lib.splitB_length_le s 0 (Lib.countB t s) t
 have h2:=Lib.countB_le s (qcf h) t.size t (Nat.le_refl _)
 unfold q2l;omega
theorem qfx (sep:ByteArray):∀(k:Nat) (s:ByteArray),∀x∈Lib.splitB sep 0 k s,x.size<=s.size
 | 0,s,x,h=>by
  rw[Lib.splitB_zero]at h
  rw[m1_.1 h];exact Nat.le_refl _
 | k+1,s,x,h=>by
  rw[Lib.splitB]at h
  split at h
  .rw[m1_.1 h];exact Nat.le_refl _
  .rcases List.mem_cons.1 h with rfl|h
   .rw[ByteArray.size_extract];omega
   .have:=qfx sep k _ x h
    rw[ByteArray.size_extract]at this;omega
theorem qz5 {s t:ByteArray} (ht:t.size<=4096):(q5b s t).1.Fits:=by
 unfold q5b
 split
 .exact q23
 .rename_i h
  refine q56 (by have:=qbx (t:=t) h;rw[lM_];omega) fun x hx=>?_
  obtain ⟨y,hy,rfl⟩:=List.mem_map.1 hx
  have:=qfx s _ t y hy
  exact q6n (by omega)
theorem qov:Ap .nSplit:=by
 intro l ha hb hf ho
 obtain ⟨a,b,rfl⟩:=q32 hb rfl rfl
 have s2:=(ha.at (i:=1) rfl).1.str_le
 refine ⟨?_,qz5 (show b.str.size<=4096 from s2)⟩
 show ((gQ2v a.str b.str).bind fun y=>some (y.1,y.2))=some (q5b a.str b.str)
 rw[q35,qz3 a.str b.str s2 fun h=>by have:=qbx (t:=b.str) h;omega]
theorem qzo (s:ByteArray):(q6m s).size<=s.size:=by
 unfold q6m
 rw[←ByteArray.size_data,List.size_toArray]
 unfold Lib.trimS Lib.trimLeftS Lib.trimRightS
 have h1:=(List.dropWhile_suffix (l:=(List.dropWhile (fun x=>[32,9,10,13].contains x) s.data.toList.reverse).reverse) fun x=>[32,9,10,13].contains x).length_le
 have h2:=(List.dropWhile_suffix (l:=s.data.toList.reverse) fun x=>[32,9,10,13].contains x).length_le
 rw[List.length_reverse]at h1 h2
 have h3:s.data.toList.length=s.size:=by simp
 omega
theorem qp0:Ap .nTrim:=by
 intro l ha hb hf ho
 obtain ⟨a,rfl⟩:=q20 hb rfl rfl
 have c:=(ha.at (i:=0) rfl).1.str_le
 refine ⟨?_,q6n (Nat.le_trans (qzo a.str) (by omega))⟩
 show ((qbp a.str ⟨#[32,9,10,13]⟩).bind fun y=>(gQa5 y).bind fun y=>some (y,0))=some (vText (q6m a.str),0)
 rw[qzm a.str c];rfl
open Go.RowKit
theorem qcj {v:Val} (c:Ck v) (h:v.kind=6):v=vU:=qci c.ok h
theorem qc4 {n:ByteArray} {a:Val} {r:List Val} (h:a.kind=6):gQ2o n (a::r)=some (a,0):=by
 unfold gQ2o
 show (bif (decide (a.kind=6)) then _ else _)=_
 rw[dT_ h,cT_]
theorem qqm (l:List Val) (v:Val):(q4g l v).Fits:=by
 unfold q4g
 cases (l.any fun x=>qu x v)
 .cases (l.all fun x=>difV x v)
  .exact q3m
  .exact qd1 false
 .exact qd1 true
theorem qod:Ap .nContains:=by
 intro l ha hb hf ho
 obtain ⟨a,b,rfl⟩:=q32 hb rfl rfl
 obtain ⟨c,n⟩:=ha.at (i:=0) rfl
 have hn:=q16 a
 show gQ2o (nmB .nContains) [a,b]=some (if a.kind=6 then (vU,0) else (q4g a.items b,0))/\(if a.kind=6 then (vU,0) else (q4g a.items b,(0:Int))).1.Fits
 by_cases h6:a.kind=6
 .rw[qc4 h6,if_pos h6,qcj c h6];exact ⟨rfl,q3m⟩
 .rw[if_neg h6]
  refine ⟨?_,qqm _ _⟩
  unfold gQ2o
  show (bif (decide (a.kind=6)) then _ else (gQ0z a.items b).bind fun y5=>some (y5,0))=_
  rw[dF_ h6,cF_,qql a.items b (by omega) fun x hx=>(c.item x hx).fits];rfl
theorem qdo:∀(r pre acc:List Val) (P:Val->Prop),(∀x∈acc,P x)->(∀x∈r,P x)->q2i pre acc r=vU\/∃m:List Val,q2i pre acc r=lV m/\m.length<=acc.length+r.length/\∀x∈m,P x
 | [],pre,acc,P,h1,h2=>.inr ⟨acc,by rw[q2i],by simp,h1⟩
 | x::r,pre,acc,P,h1,h2=>by
  rw[qap]
  cases (pre.any fun y=>!qu x y&&!difV x y)
  .rw[cF_]
   cases (pre.any fun y=>qu x y)
   .rw[cF_]
    rcases qdo r (pre++[x]) (acc++[x]) P (fun y hy=>(mA_.1 hy).elim (h1 y) fun h=>by rw[m1_.1 h];exact h2 x mS_) (fun y hy=>h2 y (mC_ _ hy)) with h|⟨m,e,h,h3⟩
    .exact .inl h
    .exact .inr ⟨m,e,by rw[lA_,l1_]at h;rw[lC_];omega,h3⟩
   .rw[cT_]
    rcases qdo r (pre++[x]) acc P h1 (fun y hy=>h2 y (mC_ _ hy)) with h|⟨m,e,h,h3⟩
    .exact .inl h
    .exact .inr ⟨m,e,by rw[lC_];omega,h3⟩
  .exact .inl rfl
theorem qoe:Ap .nDistinct:=by
 intro l ha hb hf ho
 obtain ⟨a,rfl⟩:=q20 hb rfl rfl
 obtain ⟨c,n⟩:=ha.at (i:=0) rfl
 have hn:=q16 a
 show gQ2o (nmB .nDistinct) [a]=some (if a.kind=6 then (vU,0) else (q2i [] [] a.items,0))/\(if a.kind=6 then (vU,0) else (q2i [] [] a.items,(0:Int))).1.Fits
 by_cases h6:a.kind=6
 .rw[qc4 h6,if_pos h6,qcj c h6];exact ⟨rfl,q3m⟩
 .rw[if_neg h6]
  constructor
  .unfold gQ2o
   show (bif (decide (a.kind=6)) then _ else (gQ12 a.items).bind fun y5=>some (y5,0))=_
   rw[dF_ h6,cF_,qqw a.items (by omega) fun x hx=>(c.item x hx).fits];rfl
  .rcases qdo a.items [] [] Val.Fits (fun _ h=>absurd h mN_) (fun x hx=>(c.item x hx).fits) with h|⟨m,h,h2,h3⟩
   .show (q2i [] [] a.items).Fits;rw[h];exact q3m
   .show (q2i [] [] a.items).Fits;rw[h];exact q56 (by simp at h2;omega) h3
theorem qrv (P:Val->Prop) (hP:∀x,P x->∀y∈x.items,P y) (x:Val):∀z,P x->q6w x=some z->∀y∈z,P y:=by
 induction x using wfV.induction with
 | h x ih =>
  intro z hx hz y hy
  rw[q9b]at hz
  split at hz
  .cases hz
  split at hz
  .have key:∀(l:List Val),(∀v∈l,v∈x.items)->∀z,q15 l=some z->∀y∈z,P y:=by
    intro l
    induction l with
    | nil=>intro _ z hz y hy;rw[q6a]at hz;obtain rfl:=Option.some.inj hz;exact absurd hy mN_
    | cons v r ihr =>
     intro hl z hz y hy
     rw[q69]at hz
     obtain ⟨p,h1,hz⟩:=Option.bind_eq_some_iff.1 hz
     obtain ⟨q,h2,rfl⟩:=oM_.1 hz
     rcases mA_.1 hy with hy|hy
     .exact ih v (hl v mS_) p (hP x hx v (hl v mS_)) h1 y hy
     .exact ihr (fun w hw=>hl w (mC_ _ hw)) q h2 y hy
   exact key x.items (fun _ h=>h) z hz y hy
  .obtain rfl:=Option.some.inj hz
   rw[m1_.1 hy];exact hx
theorem qdy (P:Val->Prop) (hP:∀x,P x->∀y∈x.items,P y):∀(l z:List Val),(∀x∈l,P x)->q15 l=some z->∀y∈z,P y
 | [],z,_,hz,y,hy=>by rw[q6a]at hz;obtain rfl:=Option.some.inj hz;exact absurd hy mN_
 | v::r,z,hl,hz,y,hy=>by
  rw[q69]at hz
  obtain ⟨p,h1,hz⟩:=Option.bind_eq_some_iff.1 hz
  obtain ⟨q,h2,rfl⟩:=oM_.1 hz
  rcases mA_.1 hy with hy|hy
  .exact qrv P hP v p (hl v mS_) h1 y hy
  .exact qdy P hP r q (fun w hw=>hl w (mC_ _ hw)) h2 y hy
theorem qoh:Ap .nFlatten:=by
 intro l ha hb hf ho
 obtain ⟨a,rfl⟩:=q20 hb rfl rfl
 obtain ⟨c,n⟩:=ha.at (i:=0) rfl
 have hn:=q16 a
 have hn2:q1d a.items<=400:=by rw[q6f]at n;omega
 show gQ2o (nmB .nFlatten) [a]=some (if a.kind=6 then (vU,(0:Int)) else match q15 a.items with|some z=>(lV z,0)|none=>(vU,0))/\(if a.kind=6 then (vU,(0:Int)) else match q15 a.items with|some z=>(lV z,0)|none=>(vU,0)).1.Fits
 by_cases h6:a.kind=6
 .rw[qc4 h6,if_pos h6,qcj c h6];exact ⟨rfl,q3m⟩
 .rw[if_neg h6]
  unfold gQ2o
  show (bif (decide (a.kind=6)) then _ else (tQah a.items).bind fun y9=>bif (!y9.2) then (gQa7).bind fun y11=>some (y11,0) else (gQ1y y9.1).bind fun y12=>some (y12,0))=_/\_
  rw[dF_ h6,cF_,qry a.items (by omega),oB_]
  cases h:q15 a.items with
  | none=>exact ⟨rfl,q3m⟩
  | some z=>exact ⟨rfl,q56 (by have:=qaw _ _ h;omega) (qdy Val.Fits (fun x hx y hy=>hx.parts.2.2.2.2.2.2 y hy) a.items z (fun x hx=>(c.item x hx).fits) h)⟩
theorem qj9 (v:Val):∀(l:List Val) (i:Nat),i+l.length<=100000->(q2q v i l).1.Fits
 | [],i,_=>by rw[q2q];exact q23
 | x::r,i,h=>by
  rw[lC_]at h
  rw[qay]
  cases qu x v
  .cases difV x v
   .exact q3m
   .exact qj9 v r (i+1) (by omega)
  .exact qa2 (by omega)
theorem qoi:Ap .nIndex:=by
 intro l ha hb hf ho
 obtain ⟨a,b,rfl⟩:=q32 hb rfl rfl
 obtain ⟨c,n⟩:=ha.at (i:=0) rfl
 have hn:=q16 a
 show gQ2o (nmB .nIndex) [a,b]=some (if a.kind=6 then (vU,0) else q2q b 0 a.items)/\(if a.kind=6 then (vU,0) else q2q b 0 a.items).1.Fits
 by_cases h6:a.kind=6
 .rw[qc4 h6,if_pos h6,qcj c h6];exact ⟨rfl,q3m⟩
 .rw[if_neg h6]
  refine ⟨?_,qj9 b a.items 0 (by omega)⟩
  rw[←qs4 a.items b (by omega) fun x hx=>(c.item x hx).fits]
  unfold gQ2o
  show (bif (decide (a.kind=6)) then _ else (gQ1k a.items b).bind fun y14=>bif (!y14.2) then (gQa7).bind fun y16=>some (y16,0) else bif (decide (y14.1<0)) then some ((Val.mk 0 0 eS [] []),16) else (gQa3 y14.1).bind fun y18=>some (y18,0))=_
  rw[dF_ h6,cF_]
theorem qeb {v:Val} (c:Ck v) (h:v.kind=5):v.keys.length=v.items.length:=c.ok.shape.2.2.2.2.2.2.1 h
theorem qjy {v:Val} (c:Ck v):v.keys.length<=v.items.length:=by
 obtain ⟨_,_,_,_,_,_,h1,h2⟩:=c.ok.shape
 by_cases h:v.kind=5
 .rw[h1 h];exact Nat.le_refl _
 .rw[h2 h];simp
theorem qju {v:Val} (c:Ck v):∀s∈v.keys,s.size<=140737488351232:=c.fits.parts.2.2.2.2.2.1
theorem qok:Ap .nKeys:=by
 intro l ha hb hf ho
 obtain ⟨a,rfl⟩:=q20 hb rfl rfl
 obtain ⟨c,n⟩:=ha.at (i:=0) rfl
 have hn:=q16 a
 have hk:=qjy c
 constructor
 .show q7 (gQ2b a) (0,[])=some (lV (a.keys.map vText),0)
  exact qjz a (by omega)
 .show (lV (a.keys.map vText)).Fits
  refine q56 (by rw[lM_];omega) fun x hx=>?_
  obtain ⟨s,hs,rfl⟩:=List.mem_map.1 hx
  exact q6n (qju c s hs)
theorem qp2:Ap .nValues:=by
 intro l ha hb hf ho
 obtain ⟨a,rfl⟩:=q20 hb rfl rfl
 obtain ⟨c,n⟩:=ha.at (i:=0) rfl
 have hn:=q16 a
 exact ⟨rfl,q56 (show a.items.length<=100000 by omega) fun x hx=>(c.item x hx).fits⟩
theorem qtp {m k:Val} {d:Option Val} (hm:Ck m) (hd:∀x,d=some x->x.Fits):(q57 m k d).1.Fits:=by
 unfold q57
 split
 .exact q3m
 .cases hasB m.keys k.str
  .cases d with
   | none=>exact q23
   | some x=>exact hd x rfl
  .exact (hm.look _).fits
theorem qon:Ap .nLookup:=by
 intro l ha hb hf ho
 have hb':=hb
 unfold arOk at hb
 rw[show (spB .nLookup).least=2 from rfl,show (spB .nLookup).most=3 from rfl]at hb
 simp only[Bool.and_eq_true,decide_eq_true_eq]at hb
 match l,hb with
 | [],hb=>simp at hb
 | [a],hb=>simp at hb
 | m::k::t,hb =>
  simp only[lC_]at hb
  obtain ⟨c,n⟩:=ha.at (i:=0) rfl
  have f:=qau (q1u hf (i:=0) rfl)
  refine ⟨?_,qtp (m:=m) c fun x hx=>(ha.ck x (List.mem_of_getElem? (i:=2) hx)).fits⟩
  show ((gQ28 (m::k::t)).bind fun y=>some (y.1,y.2))=some (q57 m k t[0]?)
  rw[q35,qtq m k t (by omega) c.ok (by omega)]
theorem q108 {k v:Val} (hk:Ck k) (hv:Ck v) (hl:k.items.length<=100000) (k4:k.kind=4\/k.kind=6) (v4:v.kind=4\/v.kind=6):(zipS k v).1.Fits:=by
 unfold zipS
 split
 .exact q23
 rename_i hd
 split
 .exact q23
 rename_i ks hz
 split
 .exact q3m
 rename_i hn
 have hn1:qc k=true:=by
  cases e:qc k with
  | true=>rfl
  | false=>exact absurd (.inl e) hn
 have h6:v.kind≠6:=fun h=>hn (.inr h)
 have hkk:=q24 hn1
 have he:k.items.length=v.items.length:=by
  by_cases e:k.items.length=v.items.length
  .exact e
  .exact absurd ⟨by omega,by omega,e⟩ hd
 have hs:∀(l:List Val) (acc ks:List ByteArray),(∀x∈l,x.kind≠6)->acc.Nodup->zipE acc l=some ks->ks=acc++l.map Val.str/\ks.Nodup:=by
  intro l
  induction l with
  | nil=>intro acc ks _ h1 h2;rw[zipE]at h2;obtain rfl:=Option.some.inj h2;exact ⟨by simp,h1⟩
  | cons x r ih =>
   intro acc ks h0 h1 h2
   rw[zipE,if_neg (h0 x mS_)]at h2
   cases hb:hasB acc x.str with
   | true=>rw[hb]at h2;cases h2
   | false =>
    rw[hb,cF_]at h2
    have:=ih (acc++[x.str]) ks (fun y hy=>h0 y (mC_ _ hy)) (by
     rw[List.nodup_append]
     refine ⟨h1,by simp,fun y hy z hz e=>?_⟩
     have:z=x.str:=by simpa using hz
     subst this;subst e
     rw[q52.2 hy]at hb;cases hb) h2
    exact ⟨by rw[this.1];simp,this.2⟩
 obtain ⟨e,nd⟩:=hs k.items [] ks (fun x hx=>q24 (q3g hn1 x hx)) List.nodup_nil hz
 rw[List.nil_append]at e
 have hkl:ks.length=v.items.length:=by rw[e,lM_,he]
 obtain ⟨f1,f2,f3⟩:=qs0 hkl nd
 refine .mk (by decide) (by decide) q42 (by rw[lM_,f3];omega) (by rw[lM_,f3];omega) (fun s hs=>?_) (fun x hx=>?_)
 .obtain ⟨p,hp,rfl⟩:=List.mem_map.1 hs
  have:=(List.of_mem_zip ((f2 p).1 hp)).1
  rw[e]at this
  obtain ⟨y,hy,he⟩:=List.mem_map.1 this
  rw[←he];have:=(hk.item y hy).str_le;omega
 .obtain ⟨p,hp,rfl⟩:=List.mem_map.1 hx
  exact (hv.item _ (List.of_mem_zip ((f2 p).1 hp)).2).fits
theorem qp3:Ap .nZipmap:=by
 intro l ha hb hf ho
 obtain ⟨a,b,rfl⟩:=q32 hb rfl rfl
 obtain ⟨c,n⟩:=ha.at (i:=0) rfl
 obtain ⟨c2,n2⟩:=ha.at (i:=1) rfl
 have f1:=(q7y (q1u hf (i:=0) rfl)).1
 have f2:=q9a (q1u hf (i:=1) rfl)
 have hn:=q16 a
 refine ⟨?_,q108 (k:=a) (v:=b) c c2 (by omega) f1 f2⟩
 show ((gQ33 a b).bind fun y=>some (y.1,y.2))=some (zipS a b)
 rw[q35,q10b a b c.ok c2.ok f1 f2 (by omega)]
theorem qlt (P:ByteArray->Prop):∀(ps m:List (ByteArray×Val)),(∀p∈m,P p.1)->(∀p∈ps,P p.1)->∀p∈q2n m ps,P p.1
 | [],m,h,_,p,hp=>h p hp
 | q::r,m,h,h2,p,hp=>qlt P r (mput m q.1 q.2) (fun x hx=>by
   rcases qf1 x hx with rfl|hx
   .exact h2 q mS_
   .exact h x hx) (fun x hx=>h2 x (mC_ _ hx)) p hp
theorem qkr (P:ByteArray->Prop):∀(l:List Val) (m:List (ByteArray×Val)),(∀p∈m,P p.1)->(∀v∈l,∀s∈v.keys,P s)->∀p∈q48 m l,P p.1
 | [],m,h,_,p,hp=>h p hp
 | v::r,m,h,h2,p,hp=>qkr P r (q2n m (v.keys.zip v.items)) (qlt P _ m h fun q hq=>h2 v mS_ q.1 (List.of_mem_zip hq).1) (fun x hx=>h2 x (mC_ _ hx)) p hp
theorem qu2 {m:List (ByteArray×Val)} (h:MapG 100000 m) (hk:∀p∈m,p.1.size<=140737488351232):(q1m (q1l [] m)).Fits:=by
 obtain ⟨f1,f2,f3⟩:=q7z m ([]:List (ByteArray×Val)) List.Pairwise.nil h.nd (fun _ _ q hq=>absurd hq mN_)
 have hl:=h.len
 have f2:∀p∈q1l [] m,p∈m:=fun p hp=>((f2 p).1 hp).elim (fun h=>absurd h mN_) id
 refine .mk (by decide) (by decide) q42 (by rw[lM_,f3];simp;omega) (by rw[lM_,f3];simp;omega) (fun s hs=>?_) (fun x hx=>?_)
 .obtain ⟨p,hp,rfl⟩:=List.mem_map.1 hs
  exact hk p (f2 p hp)
 .obtain ⟨p,hp,rfl⟩:=List.mem_map.1 hx
  exact h.fits p (f2 p hp)
theorem qop:Ap .nMerge:=by
 intro l ha hb hf ho
 have ho:q17 .nMerge l=false:=ho
 obtain ⟨a,r,rfl⟩:=q4q hb rfl
 have hl:=ha.len
 have hv:∀v∈a::r,v.keys.length=v.items.length/\v.keys.length<=400/\∀y∈v.items,y.Fits:=fun v hv=>by
  obtain ⟨i,hi⟩:=List.getElem?_of_mem hv
  have o:=q2z ho hi
  have f:=q1u hf hi
  rw[qbi rfl]at f
  have f:=qau f
  have c:=ha.ck v hv
  have e:=qeb c (by omega)
  have:=q16 v
  have:=ha.nodes v hv
  exact ⟨e,by omega,fun y hy=>(c.item y hy).fits⟩
 obtain ⟨m1,m2⟩:=qu7 (a::r) 400 (by omega) (by omega) hv
 refine ⟨m1,qu2 ⟨by have:=m2.len;omega,m2.nd,m2.fits⟩ (qkr _ _ _ (fun _ h=>absurd h mN_) fun v hv=>qju (ha.ck v hv))⟩
theorem qdg:∀(l:List Val),q41 l=vZ\/q41 l∈l
 | []=>.inl rfl
 | x::r=>by
  rw[q41]
  split
  .exact (qdg r).imp id (mC_ _)
  .exact .inr mS_
theorem qob:Ap .nCoalesce:=by
 intro l ha hb hf ho
 refine ⟨qqi l (by have:=ha.len;omega),?_⟩
 show (q41 l).Fits
 rcases qdg l with h|h
 .rw[h];exact q23
 .exact (ha.ck _ h).fits
theorem qzk {k:Int} (hk:k=1\/k=2\/k=3) {v:Val} (h:Ck v):(tocS k v).1.Fits:=by
 unfold tocS
 split
 .exact h.fits
 .cases qao hk h with
  | unk _ h2=>rw[h2];exact q3m
  | val _ _ _ _ hx h2=>rw[h2];exact hx.fits
  | bad _ h2=>rw[h2];exact q23
theorem qcv {k:Nm} {i:Int} (h1:(spB k).least=1) (h2:(spB k).most=1) (hi:i=1\/i=2\/i=3) (hb:∀a,brS k [a]=(gQ04 a (Ty.mk i [] [])).bind fun y=>some (y.1,y.2)) (hs:∀a,apS k [a]=tocS i a):Ap k:=by
 intro l ha har hf ho
 obtain ⟨a,rfl⟩:=q20 har h1 h2
 obtain ⟨c,n⟩:=ha.at (i:=0) rfl
 rw[hb,hs,q35,qzl hi c]
 exact ⟨rfl,qzk hi c⟩
theorem qox:Ap .nTobool:=qcv rfl rfl (.inl rfl) (fun _=>rfl) fun _=>rfl
theorem qoy:Ap .nTonumber:=qcv rfl rfl (.inr (.inl rfl)) (fun _=>rfl) fun _=>rfl
theorem qoz:Ap .nTostring:=qcv rfl rfl (.inr (.inr rfl)) (fun _=>rfl) fun _=>rfl
theorem qiz (m:Nat):∀(l:List Val),(∀v∈l,v.items.length<=m)->(l.flatMap Val.items).length<=l.length*m
 | [],_=>by simp
 | v::r,h=>by
  rw[List.flatMap_cons,lA_,lC_,Nat.add_mul]
  have:=qiz m r fun x hx=>h x (mC_ _ hx)
  have:=h v mS_
  omega
theorem qoc:Ap .nConcat:=by
 intro l ha hb hf ho
 obtain ⟨a,r,rfl⟩:=q4q hb rfl
 have hl:=ha.len
 have hm:∀v∈a::r,v.items.length<=400:=fun v hv=>by
  have:=q16 v
  have:=ha.nodes v hv
  omega
 refine ⟨qi5 (a::r) 400 hm (by omega) (by omega),q56 (by have:=qiz 400 _ hm;omega) fun x hx=>?_⟩
 obtain ⟨v,hv,hx⟩:=List.mem_flatMap.1 hx
 exact ((ha.ck v hv).item x hx).fits
theorem qid {l n:Val}:(q36 l n).1=vZ\/(q36 l n).1=vU\/(q36 l n).1∈l.items:=by
 unfold q36
 split
 .exact .inl rfl
 split
 .exact .inr (.inl rfl)
 .show l.items.getD _ vZ=vZ\/_\/l.items.getD _ vZ∈l.items
  rw[List.getD_eq_getElem?_getD]
  cases h:l.items[(n.num % (l.items.length:Int)).toNat]? with
  | none=>exact .inl rfl
  | some x=>exact .inr (.inr (List.mem_of_getElem? h))
theorem qof:Ap .nElement:=by
 intro l ha hb hf ho
 obtain ⟨a,b,rfl⟩:=q32 hb rfl rfl
 obtain ⟨c,n⟩:=ha.at (i:=0) rfl
 obtain ⟨c2,n2⟩:=ha.at (i:=1) rfl
 have f1:=q9a (q1u hf (i:=0) rfl)
 have f2:=q51 (q1u hf (i:=1) rfl)
 have hn:=q16 a
 constructor
 .show ((gQ16 a b).bind fun y=>some (y.1,y.2))=some (q36 a b)
  rw[q35,qr7 a b f1 (by omega) fun h6=>c2.num_ok (by omega)]
 .show (q36 a b).1.Fits
  rcases qid (l:=a) (n:=b) with h|h|h
  .rw[h];exact q23
  .rw[h];exact q3m
  .exact (c.item _ h).fits
theorem qom:Ap .nLength:=by
 intro l ha hb hf ho
 obtain ⟨a,rfl⟩:=q20 hb rfl rfl
 obtain ⟨c,n⟩:=ha.at (i:=0) rfl
 have hs:=c.str_le
 have hn:=q16 a
 constructor
 .show ((gQ1w a).bind fun y=>some (y,0))=some (lenS a,0)
  rw[qti a hs];rfl
 .show (lenS a).Fits
  have:=Lib.runeCount_le a.str
  exact qa2 (by split<;>omega)
theorem qos:Ap .nReverse:=by
 intro l ha hb hf ho
 obtain ⟨a,rfl⟩:=q20 hb rfl rfl
 obtain ⟨c,n⟩:=ha.at (i:=0) rfl
 have hn:=q16 a
 refine ⟨?_,q56 (show a.items.reverse.length<=100000 by rw[List.length_reverse];omega) fun x hx=>(c.item x (List.mem_reverse.1 hx)).fits⟩
 show (bif (decide ((a.items.length:Int)=0)) then (gQ22 a).bind fun y14=>(gQ1y []).bind fun y15=>some (y15,0) else (clone 80 a.items).bind fun l16=>(gQ24 a l16).bind fun y22=>bif decide ((y22.length:Int)=(l16.length:Int)) then (gQ1y y22).bind fun y24=>some (y24,0) else none)=some (lV a.items.reverse,0)
 by_cases h0:a.items.length=0
 .rw[dT_ (show (a.items.length:Int)=0 by omega),cT_,List.length_eq_zero_iff.1 h0];rfl
 .rw[dF_ (show ¬(a.items.length:Int)=0 by omega),cF_,q96 (by omega),oB_,qx0 a.items (by omega) (by omega),oB_,List.length_reverse,dT_ rfl];rfl
theorem qot:Ap .nSlice:=by
 intro l ha hb hf ho
 obtain ⟨v,a,b,rfl⟩:=qab hb rfl rfl
 obtain ⟨c,n⟩:=ha.at (i:=0) rfl
 have hn:=q16 v
 have e:apS .nSlice [v,a,b]=q77 v a b:=rfl
 rw[e]
 unfold q77
 constructor
 .show (bif (decide (a.num<0)) then some ((Val.mk 0 0 eS [] []),16) else bif (decide (b.num<a.num)) then some ((Val.mk 0 0 eS [] []),16) else bif (decide (b.num > (v.items.length:Int))) then some ((Val.mk 0 0 eS [] []),16) else (slc v.items a.num b.num).bind fun x31=>(gQ1y x31).bind fun y33=>some (y33,0))=_
  by_cases h1:a.num<0
  .rw[dT_ h1,if_pos (.inl h1)];rfl
  by_cases h2:b.num<a.num
  .rw[dF_ h1,dT_ h2,if_pos (.inr (.inl h2))];rfl
  by_cases h3:b.num > (v.items.length:Int)
  .rw[dF_ h1,dF_ h2,dT_ h3,if_pos (.inr (.inr h3))];rfl
  rw[dF_ h1,dF_ h2,dF_ h3,if_neg (by omega)]
  unfold slc
  rw[if_pos (by omega)];rfl
 .split
  .exact q23
  .exact q56 (by simp;omega) fun x hx=>(c.item x (List.drop_subset _ _ (List.take_subset _ _ hx))).fits
theorem qna {v:Val} (c:Ck v) (hk:qc v=true) (h:∀x∈v.items,x.kind=3\/x.kind=6):∀x∈v.items,x=strV x.str:=fun x hx=>by
 have h3:x.kind=3:=by
  have:=h x hx
  have:=q24 (q3g hk x hx)
  omega
 obtain ⟨_,_,s2,_,_,s5,_,s7⟩:=(c.item x hx).ok.shape
 exact q8m h3 (s2 (by omega) (by omega)) rfl (s5 (by omega) (by omega)) (s7 (by omega))
theorem qcc (l:List ByteArray):(q2o cmpS l).Perm l:=(q3k swoS l).1
theorem qou:Ap .nSort:=by
 intro l ha hb hf ho
 obtain ⟨a,rfl⟩:=q20 hb rfl rfl
 obtain ⟨c,n⟩:=ha.at (i:=0) rfl
 have ho:q17 .nSort [a]=false:=ho
 have o:=q2z ho (i:=0) rfl
 have f:=q7y (q1u hf (i:=0) rfl)
 have hn:=q16 a
 have hs:=qna c (o.2 (.inr rfl)) f.2
 constructor
 .show (bif (decide ((a.items.length:Int)=0)) then (gQ1y []).bind fun y36=>some (y36,0) else (clone 80 a.items).bind fun l37=>(q9k l37).bind fun l38=>(gQ1y l38).bind fun y39=>some (y39,0))=some (q9w a,0)
  by_cases h0:a.items.length=0
  .unfold q9w
   rw[dT_ (show (a.items.length:Int)=0 by omega),cT_,List.length_eq_zero_iff.1 h0,List.map_nil,List.perm_nil.1 (qcc [])];rfl
  .rw[dF_ (show ¬(a.items.length:Int)=0 by omega),cF_,q96 (by omega),oB_,show q9k a.items=some ((q2o cmpS (a.items.map Val.str)).map strV) from q1v ⟨by omega,hs⟩];rfl
 .show (q9w a).Fits
  unfold q9w
  refine q56 ?_ fun x hx=>?_
  .have:=(qcc (a.items.map Val.str)).length_eq
   rw[lM_,this,lM_];omega
  .obtain ⟨s,hs,rfl⟩:=List.mem_map.1 hx
   have:=(qcc (a.items.map Val.str)).mem_iff.1 hs
   obtain ⟨y,hy,rfl⟩:=List.mem_map.1 this
   exact q6n (by have:=(c.item y hy).str_le;omega)
theorem qcu (k:Nm):Ap k:=by
 cases k
 .exact ap_abs
 .exact qob
 .exact qoc
 .exact qod
 .exact qoe
 .exact qof
 .exact qog
 .exact qoh
 .exact qoi
 .exact qoj
 .exact qok
 .exact qom
 .exact qon
 .exact qoo
 .exact qgy (.inl ⟨rfl,rfl⟩)
 .exact qop
 .exact qgy (.inr ⟨rfl,rfl⟩)
 .exact qoq
 .exact qor
 .exact qos
 .exact qot
 .exact qou
 .exact qov
 .exact qow
 .exact ap_sum
 .exact qox
 .exact qoy
 .exact qoz
 .exact qp0
 .exact qp1
 .exact qp2
 .exact qp3
noncomputable def q65 (k:Nm) (l:List Val):Val×Int :=
 if q37 k l=false then (vZ,6) else if ((spB k).strict&&q17 k l)=true then (vU,0) else finS (apS k l)
theorem qhl {k:Nm} {l:List Val} (ha:Args l) (h:arOk k l=true):gQ0n (nmB k) l=some (q65 k l):=by
 rw[qq3 ha h fun h1 h2=>by
  obtain ⟨e,f⟩:=qcu k l ha h h1 h2
  exact ⟨apS k l,by rw[qh3,e],f⟩]
 unfold q65
 by_cases h1:q37 k l=false
 .rw[if_pos h1,if_pos h1]
 rw[if_neg h1,if_neg h1]
 by_cases h2:((spB k).strict&&q17 k l)=true
 .rw[if_pos h2,if_pos h2]
 rw[if_neg h2,if_neg h2,qh3,(qcu k l ha h (eq_true_of_ne_false h1) (eq_false_of_ne_true h2)).1];rfl
theorem qgz {k:Nm} {l:List Val} (ha:Args l) (h:arOk k l=true) (h1:q37 k l=true) (h2:((spB k).strict&&q17 k l)=false):(apS k l).1.Fits:=(qcu k l ha h h1 h2).2
open Go.RowKit
theorem qtw {O:Type} {body:Int->Option (Int⊕O)} (n:Nat) (q:O) (step:∀i:Nat,i<n->body (i:Int)=some (.inl ((i+1:Nat):Int))) (stop:body (n:Int)=some (.inr q)):q7 body 0=some q:=by
 obtain ⟨p,h1,h2⟩:=q1w (body:=body) (fun s=>∃i:Nat,s=(i:Int)/\i<=n) (fun s=>n-s.toNat) (fun p=>p=q) (by
  rintro s ⟨i,rfl,hi⟩
  rcases Nat.eq_or_lt_of_le hi with h0|h0
  .subst h0;exact .inr ⟨q,stop,rfl⟩
  .exact .inl ⟨_,step i h0,⟨i+1,rfl,h0⟩,by simp only[Int.toNat_natCast];omega⟩) 0 ⟨0,rfl,Nat.zero_le _⟩
 rw[h1,h2]
noncomputable def nmL:List ByteArray:=(gQ0q).getD []
theorem qug:gQ0q=some nmL:=rfl
theorem ql2:gQ5h=some nmL:=rfl
theorem ql4:nmL.length=32:=rfl
theorem qt6 {n:ByteArray} (h:n∈nmL):gQ6s n=some true:=by
 unfold gQ6s
 rw[ql2,oB_]
 obtain ⟨p,h1,h2⟩:=q1w (body:=gQ6t n nmL) (fun s=>∃i:Nat,s=(i:Int)/\i<=nmL.length/\n∈nmL.drop i) (fun s=>nmL.length-s.toNat) (fun p=>p=true) (by
  rintro s ⟨i,rfl,hi,hm⟩
  rcases Nat.eq_or_lt_of_le hi with h0|h0
  .rw[h0,List.drop_length]at hm;exact absurd hm mN_
  .have hx:=gE_ h0
   have hl:=ql4
   by_cases he:nmL[i]=n
   .exact .inr ⟨true,by simp only[gQ6t,dT_ (show (i:Int)<nmL.length by omega),cT_,q9,hx,oB_,dT_ he],rfl⟩
   .refine .inl ⟨((i+1:Nat):Int),by simp only[gQ6t,dT_ (show (i:Int)<nmL.length by omega),cT_,q9,hx,oB_,dF_ he,cF_,qg h0 (show nmL.length<=9223372036854775807 by omega)],⟨i+1,rfl,h0,?_⟩,by simp only[Int.toNat_natCast];omega⟩
    rw[List.drop_eq_getElem_cons h0]at hm
    rcases List.mem_cons.1 hm with e|e
    .exact absurd e.symm he
    .exact e) 0 ⟨0,rfl,Nat.zero_le _,by simpa using h⟩
 rw[h1,h2]
theorem qt8 {n:ByteArray} (h:n ∉ nmL):gQ6s n=some false:=by
 unfold gQ6s
 rw[ql2,oB_]
 have hl:=ql4
 refine qtw nmL.length false (fun i h0=>?_) ?_
 .have hx:=gE_ h0
  have he:¬nmL[i]=n:=fun e=>h (e ▸ List.getElem_mem h0)
  simp only[gQ6t,dT_ (show (i:Int)<nmL.length by omega),cT_,q9,hx,oB_,dF_ he,cF_,qg h0 (show nmL.length<=9223372036854775807 by omega)]
 .simp only[gQ6t,dF_ (show ¬(nmL.length:Int)<nmL.length by omega),cF_]
theorem qp6 (n:ByteArray):∃r,gQ0l n=some r/\gQ59 n=some r:=by
 by_cases h:n∈nmL
 .have hk:=qt6 h
  unfold nmL gQ0q at h
  simp only[Option.getD_some,List.mem_cons,mN_,or_false]at h
  rcases h with rfl|rfl|rfl|rfl|rfl|rfl|rfl|rfl|rfl|rfl|rfl|rfl|rfl|rfl|rfl|rfl|rfl|rfl|rfl|rfl|rfl|rfl|rfl|rfl|rfl|rfl|rfl|rfl|rfl|rfl|rfl|rfl
  all_goals (unfold gQ59;rw[hk];clear hk;exact ⟨_,rfl,rfl⟩)
 .refine ⟨(0,0,false),?_,?_⟩
  .unfold nmL gQ0q at h
   simp only[Option.getD_some,List.mem_cons,mN_,or_false,not_or]at h
   unfold gQ0l gQ1b
   simp only[h,decide_false,cF_,oB_,nF_,cT_]
  .unfold gQ59
   rw[qt8 h];rfl
theorem qdx {k n:Int} {s:ByteArray} (hk:-100<=k/\k<=100) (hn:-9223372036854775808<=n/\n<=9223372036854775807) (hs:s.size<=140737488351232):(Val.mk k n s [] []).Fits :=
 .mk ⟨by omega,by omega⟩ hn hs (by simp) (by simp) (fun s h=>absurd h mN_) (fun s h=>absurd h mN_)
abbrev nV (n:Int):Val:=Val.mk 2 n eS [] []
abbrev uV:Val:=Val.mk 6 0 eS [] []
open Classical in
theorem qil (a b:Val):tQb8 a b=gQ9h (fun a0 a1=>if relV a0 a then tQb8 a0 a1 else none) a b:=q30 a b
open Classical in
theorem qzr (a b:Val):tQak a b=gQ30 (fun a0 a1=>if relV a0 a then tQak a0 a1 else none) a b:=q30 a b
open Classical in
theorem qt9 (x:Val):tQbb x=gQ9o (gQ9p (fun a0=>if relV a0 x then tQbb a0 else none)) x:=q30 x ()
theorem qyi:gQ8x [] []=some true:=by
 unfold gQ8x
 show q7 _ 0=_
 exact q2c rfl
theorem eq_num (a b:Int):tQb8 (nV a) (nV b)=some (decide (a=b)):=by
 rw[qil]
 unfold gQ9h
 show (bif (decide (a=b)) then _ else some false)=_
 by_cases h:a=b
 .rw[dT_ h,cT_]
  show (gQ8x [] []).bind _=_
  rw[qyi,oB_,cT_]
  unfold gQ9j
  show (q7 _ 0).bind _=_
  rw[q2c (q:=true) rfl];rfl
 .rw[dF_ h,cF_]
theorem eq_unk (b:Int):tQb8 uV (nV b)=some false:=by
 rw[qil];rfl
theorem qt7 (a:Int):tQbb (nV a)=some true:=by
 rw[qt9]
 unfold gQ9o gQ9s gQ9u
 show ((q7 _ 0).bind _).bind _=_
 rw[q2c (q:=(-1:Int)) rfl];rfl
theorem qgq (a b:Int):gQ0s (nV a) (nV b)=some (decide (a=b)):=by
 unfold gQ0s
 rw[eq_num,oB_]
 cases decide (a=b) with
 | false=>rfl
 | true=>rw[cT_,qt7];rfl
theorem qgr (b:Int):gQ0s uV (nV b)=some false:=by
 unfold gQ0s
 rw[eq_unk];rfl
theorem qnl (b:Int):tQak uV (nV b)=some false:=by
 rw[qzr];rfl
theorem qe7 (v:Val) (k:Int):gQ1q v [k]=some (decide (v.kind=k) || decide (v.kind=6)):=by
 unfold gQ1q
 by_cases h:v.kind=k
 .rw[dT_ h]
  refine q2c ?_
  show (bif (decide (v.kind=k)) then _ else _)=_
  rw[dT_ h];rfl
 .rw[dF_ h]
  rw[q4u (s':=1) (by
   show (bif (decide (v.kind=k)) then _ else _)=_
   rw[dF_ h];rfl)]
  refine q2c ?_
  rfl
theorem qq9 {n:Int} (h:qx (nV n)=0) (hn:-9223372036854775808<=n/\n<=9223372036854775807):q2e (nV n)=some 0/\cpy (nV n)=some (nV n):=by
 have hf:(nV n).Fits:=qdx (by decide) hn (by decide)
 exact ⟨by rw[show q2e (nV n)=some (qx (nV n)) from q1v hf,h],q1v hf⟩
theorem qqb:q2e uV=some 0/\cpy uV=some uV:=by
 have hf:uV.Fits:=qdx (by decide) (by decide) (by decide)
 exact ⟨by rw[show q2e uV=some (qx uV) from q1v hf,show qx uV=0 by decide +kernel],q1v hf⟩
theorem qqa:q2e (Val.mk 1 1 eS [] [])=some 0/\cpy (Val.mk 1 1 eS [] [])=some (Val.mk 1 1 eS [] []):=by
 have hf:(Val.mk 1 1 eS [] []).Fits:=qdx (by decide) (by decide) (by decide)
 exact ⟨by rw[show q2e (Val.mk 1 1 eS [] [])=some (qx (Val.mk 1 1 eS [] [])) from q1v hf,show qx (Val.mk 1 1 eS [] [])=0 by decide +kernel],q1v hf⟩
def bCon:ByteArray:=⟨#[99,111,110,116,97,105,110,115]⟩
def bEl:ByteArray:=⟨#[101,108,101,109,101,110,116]⟩
theorem qdb {name:ByteArray} {l:List Val} {n:Int} {b2:UInt8} {r v:Val} (hfind:gQ1b name=some (SpecG.mk ⟨#[108,b2]⟩ 2 2 false,true)) (hfit:gQ1d (nV n) (b2.toNat:Int)=some true)
  (happ:gQ0x name [lV l,nV n]=some (r,0)) (hc:q2e r=some 0/\cpy r=some v):gQ0n name [lV l,nV n]=some (v,0):=by
 unfold gQ0n
 rw[hfind,oB_]
 show q7 (gQ0o name [lV l,nV n] (SpecG.mk ⟨#[108,b2]⟩ 2 2 false,true)) 0=_
 have f0:gQ1d (lV l) 108=some true:=by
  unfold gQ1d
  show (gQ1q (lV l) [4]).bind _=_
  rw[qe7];rfl
 have l0:gQ2q (SpecG.mk ⟨#[108,b2]⟩ 2 2 false) 0=some 108:=rfl
 have l1:gQ2q (SpecG.mk ⟨#[108,b2]⟩ 2 2 false) 1=some (b2.toNat:Int):=rfl
 have d0:decide ((0:Int)<(([lV l,nV n]:List Val).length:Int))=true:=rfl
 have d1:decide ((1:Int)<(([lV l,nV n]:List Val).length:Int))=true:=rfl
 have d2:decide ((2:Int)<(([lV l,nV n]:List Val).length:Int))=false:=rfl
 have i0:idx [lV l,nV n] 0=some (lV l):=rfl
 have i1:idx [lV l,nV n] 1=some (nV n):=rfl
 have w0:IntKind.i64.wrap (0+1)=1:=by decide
 have w1:IntKind.i64.wrap (1+1)=2:=by decide
 rw[q4u (s':=1) (by
  unfold gQ0o
  simp only[d0,cT_,i0,l0,f0,w0,oB_,nT_,cF_])]
 rw[q4u (s':=2) (by
  unfold gQ0o
  simp only[d1,cT_,i1,l1,hfit,w1,oB_,nT_,cF_])]
 refine q2c ?_
 unfold gQ0o
 simp only[d2,cF_,happ,oB_,decide_true,cT_,hc.1,hc.2,nT_]
theorem qqk:gQ0z [uV,nV 1] (nV 1)=some (Val.mk 1 1 eS [] []):=by
 unfold gQ0z
 rw[q4u (s':=(1,false)) (by
  unfold gQ10
  show (gQ0s uV (nV 1)).bind _=_
  rw[qgr,oB_]
  show (tQak uV (nV 1)).bind _=_
  rw[qnl];rfl)]
 refine q2c ?_
 unfold gQ10
 show (gQ0s (nV 1) (nV 1)).bind _=_
 rw[qgq];rfl
theorem qqj:gQ0z [uV,nV 1] (nV 2)=some uV:=by
 unfold gQ0z
 rw[q4u (s':=(1,false)) (by
  unfold gQ10
  show (gQ0s uV (nV 2)).bind _=_
  rw[qgr,oB_]
  show (tQak uV (nV 2)).bind _=_
  rw[qnl];rfl)]
 rw[q4u (s':=(2,false)) (by
  unfold gQ10
  show (gQ0s (nV 1) (nV 2)).bind _=_
  rw[qgq];rfl)]
 refine q2c ?_
 rfl
theorem qh1 (l:List Val) (x:Val) {r:Val} (h:gQ0z l x=some r):gQ0x bCon [lV l,x]=some (r,0):=by
 unfold gQ0x
 show (gQ2o bCon [lV l,x]).bind _=_
 have:gQ2o bCon [lV l,x]=some (r,0):=by
  unfold gQ2o
  show (gQ0z l x).bind _=_
  rw[h];rfl
 rw[this];rfl
theorem app_el:gQ0x bEl [lV [nV 1,nV 2,nV 3],nV (-1)]=some (nV 3,0):=by kernel_rfl
theorem qq1:gQ0n ⟨#[97,98,115]⟩ [Val.mk 0 0 eS [] []]=some (Val.mk 0 0 eS [] [],6):=by
 unfold gQ0n
 rw[show gQ1b ⟨#[97,98,115]⟩=some (SpecG.mk ⟨#[110]⟩ 1 1 true,true) from rfl,oB_]
 show q7 (gQ0o ⟨#[97,98,115]⟩ [Val.mk 0 0 eS [] []] (SpecG.mk ⟨#[110]⟩ 1 1 true,true)) 0=_
 refine q2c ?_
 unfold gQ0o
 have l0:gQ2q (SpecG.mk ⟨#[110]⟩ 1 1 true) 0=some 110:=rfl
 have d0:decide ((0:Int)<(([Val.mk 0 0 eS [] []]:List Val).length:Int))=true:=rfl
 have i0:idx [Val.mk 0 0 eS [] []] 0=some (Val.mk 0 0 eS [] []):=rfl
 have f0:gQ1d (Val.mk 0 0 eS [] []) 110=some false:=by
  unfold gQ1d
  show (gQ1q (Val.mk 0 0 eS [] []) [2]).bind _=_
  rw[qe7];rfl
 simp only[d0,cT_,i0,l0,f0,oB_,nF_]
theorem awake18:gQ3a=some true:=by
 have y5:gQ0n bCon [lV [uV,nV 1],nV 1]=some (Val.mk 1 1 eS [] [],0):=qdb rfl rfl (qh1 _ _ qqk) qqa
 have y10:gQ0n bCon [lV [uV,nV 1],nV 2]=some (uV,0):=qdb rfl rfl (qh1 _ _ qqj) qqb
 have f2:gQ1d (nV (-1)) ((110:UInt8).toNat:Int)=some true:=by
  unfold gQ1d
  show (gQ1q (nV (-1)) [2]).bind _=_
  rw[qe7];rfl
 have y16:gQ0n bEl [lV [nV 1,nV 2,nV 3],nV (-1)]=some (nV 3,0):=qdb (b2:=110) rfl f2 app_el (qq9 (by decide +kernel) (by decide))
 have y17:=qq1
 have y18:gQ0n ⟨#[110,111,112,101]⟩ []=some (Val.mk 0 0 eS [] [],17):=rfl
 have y19:gQ0l ⟨#[108,111,111,107,117,112]⟩=some (2,3,true):=rfl
 unfold gQ3a
 show ((gQ0n bCon [lV [uV,nV 1],nV 1]).bind fun y5=>_)=_
 rw[y5,oB_]
 show ((gQ0n bCon [lV [uV,nV 1],nV 2]).bind fun y5=>_)=_
 rw[y10,oB_]
 show ((gQ0n bEl [lV [nV 1,nV 2,nV 3],nV (-1)]).bind fun y5=>_)=_
 rw[y16,oB_,y17,oB_,y18,oB_,y19,oB_,qug,oB_]
 rfl
open Classical in
theorem qui (x:Val):q2k x<=100000->tQaw x=some (q2k x:Int):=by
 induction x using wfV.induction with
 | h x ih =>
  intro hn
  have e:tQaw x=gQ4j (fun a0=>if relV a0 x then tQaw a0 else none) x:=q30 x ()
  rw[e]
  rw[q6f]at hn ⊢
  unfold gQ4j
  have hl:=q9m x.items
  have:=qt (body:=gQ4k (fun a0=>if relV a0 x then tQaw a0 else none) x) x.items (fun i (a:Nat)=>((a:Int),(i:Int))) (fun a r=>((a+q1d r:Nat):Int)) (fun a r=>a+q1d r<=100000/\∀y∈r,y∈x.items) (s0:=(1,0)) (a:=1) rfl ⟨hn,fun _ h=>h⟩ (fun a _=>?_) (fun i y r a hi hx _ hq=>?_)
  .exact this
  .simp only[gQ4k,dF_ (show ¬(x.items.length:Int)<x.items.length by omega),cF_,qf5,Nat.add_zero]
  .left
   obtain ⟨h1,h2⟩:=hq
   rw[q5t]at h1
   have hy:=h2 y mS_
   refine ⟨a+q2k y,⟨by omega,fun z hz=>h2 z (mC_ _ hz)⟩,?_,by rw[q5t,Nat.add_assoc]⟩
   simp only[gQ4k,dT_ (show (i:Int)<x.items.length by omega),cT_,q9,hx,oB_,if_pos (show relV y x from hy),ih y hy (by omega),qg hi (show x.items.length<=9223372036854775807 by omega),qy (show -9223372036854775808<=(a:Int)+(q2k y:Int) by omega) (show (a:Int)+(q2k y:Int)<=9223372036854775807 by omega)]
   rfl
def q47:Nat->Val->Nat
 | 0,v=>v.keys.foldl (fun n s=>max n s.size) v.str.size
 | d+1,v=>v.items.foldl (fun n x=>max n (q47 d x)) (v.keys.foldl (fun n s=>max n s.size) v.str.size)
theorem maxI (a b:Nat):(if (a:Int) > (b:Int) then (a:Int) else (b:Int))=((max b a:Nat):Int):=by split<;>omega
open Classical in
theorem qto (x:Val):∀d:Nat,d<=1000->x.Fits->tQan x (d:Int)=some (q47 d x:Int):=by
 induction x using wfV.induction with
 | h x ih =>
  intro d hd hf
  obtain ⟨f1,f2,f3,f4,f5,f6,f7⟩:=hf.parts
  have e:tQan x (d:Int)=gQ3h (fun a0 a1=>if relV a0 x then tQan a0 a1 else none) x (d:Int):=q30 x (d:Int)
  rw[e]
  unfold gQ3h
  have hN:=q2b f4 (by decide)
  have hK:=q2b f5 (by decide)
  have:=qt (body:=gQ3i (fun a0 a1=>if relV a0 x then tQan a0 a1 else none) x (d:Int)) x.keys (fun i (a:Nat)=>((a:Int),(i:Int))) (fun a r=>((match d with|0=>r.foldl (fun n s=>max n s.size) a|d+1=>x.items.foldl (fun n y=>max n (q47 d y)) (r.foldl (fun n s=>max n s.size) a):Nat):Int)) (fun _ _=>True) (s0:=((x.str.size:Int),0)) (a:=x.str.size) rfl trivial (fun a _=>?_) (fun i s r a hi hx _ _=>?_)
  .rw[this];cases d<;>rfl
  .simp only[gQ3i,dF_ (show ¬(x.keys.length:Int)<x.keys.length by omega),cF_]
   cases d with
   | zero =>
    refine q2c ?_
    simp only[gQ3j]
    cases decide ((0:Int)<(x.items.length:Int))<;>rfl
   | succ d =>
    refine qt (body:=gQ3j (fun a0 a1=>if relV a0 x then tQan a0 a1 else none) x ((d+1:Nat):Int)) x.items (fun i (a:Nat)=>((a:Int),(i:Int))) (fun a r=>.inr ((r.foldl (fun n y=>max n (q47 d y)) a:Nat):Int)) (fun a r=>∀y∈r,y∈x.items) rfl (fun _ h=>h) (fun a _=>?_) (fun i y r a hi hx _ hq=>?_)
    .simp only[gQ3j,dF_ (show ¬(x.items.length:Int)<x.items.length by omega),cF_];rfl
    .left
     have hy:=hq y mS_
     refine ⟨max a (q47 d y),fun z hz=>hq z (mC_ _ hz),?_,rfl⟩
     simp only[gQ3j,dT_ (show (i:Int)<x.items.length by omega),cT_,q9,hx,oB_,dT_ (show ((d+1:Nat):Int) > 0 by omega),if_pos (show relV y x from hy),qg hi (show x.items.length<=9223372036854775807 by omega),show ((d+1:Nat):Int) - 1=(d:Int) by omega,qy (show -9223372036854775808<=(d:Int) by omega) (show (d:Int)<=9223372036854775807 by omega),ih y hy d (by omega) (f7 y hy),maxI]
  .left
   refine ⟨max a s.size,trivial,?_,?_⟩
   .simp only[gQ3i,dT_ (show (i:Int)<x.keys.length by omega),cT_,q9,hx,oB_,qg hi (show x.keys.length<=9223372036854775807 by omega),maxI]
   .cases d<;>rfl
structure Few18 (l:List Val):Prop where
 len:l.length<=70
 ck:∀v∈l,Ck v
 nodes:q1d l<=100
 long:∀v∈l,q47 32 v<=300
theorem ql9 {v:Val} {n:Nat} (h:q5a v n=true):q2k v<=n:=by
 unfold q5a at h
 simp only[Bool.and_eq_true,decide_eq_true_eq]at h
 rcases qbd v n 40 with h1|h1<;>omega
theorem qrg (l:List Val) (hf:∀v∈l,v.Fits):∃b,gQ3c l=some b/\(b=true->Few18 l):=by
 unfold gQ3c
 by_cases hl:l.length > 70
 .exact ⟨false,by rw[dT_ (show (l.length:Int) > 70 by omega)];rfl,fun h=>by cases h⟩
 rw[dF_ (show ¬(l.length:Int) > 70 by omega),cF_]
 obtain ⟨q,h1,h2⟩:=q1w (body:=gQ3d l) (fun s=>∃i n:Nat,s=((n:Int),(i:Int))/\i<=l.length/\n<=200/\n+q1d (l.drop i)=q1d l/\∀v∈l.take i,Ck v/\q47 32 v<=300) (fun s=>l.length-s.2.toNat) (fun q=>q=true->Few18 l) (by
  rintro s ⟨i,n,rfl,hi,hn,hs,hv⟩
  rcases Nat.eq_or_lt_of_le hi with h0|h0
  .subst h0
   refine .inr ⟨decide ((n:Int)<=100),by simp only[gQ3d,dF_ (show ¬(l.length:Int)<l.length by omega),cF_],fun h=>?_⟩
   rw[List.drop_length,qf5]at hs
   rw[List.take_length]at hv
   have:=of_decide_eq_true h
   exact ⟨by omega,fun v h=>(hv v h).1,by omega,fun v h=>(hv v h).2⟩
  .by_cases h100:(n:Int)<=100
   case neg =>
    refine .inr ⟨false,by simp only[gQ3d,dT_ (show (i:Int)<l.length by omega),cT_,dF_ h100,cF_],fun h=>by cases h⟩
   have hx:=gE_ h0
   have hm:=List.getElem_mem h0
   have e1:qes l[i] 100=some (q5a l[i] (100:Nat)):=q1v ⟨hf _ hm,by decide,by decide⟩
   have step:gQ3d l ((n:Int),(i:Int))=if q5a l[i] (100:Nat)=true/\qx l[i]=0/\q47 32 l[i]<=300 then some (.inl (((n+q2k l[i]:Nat):Int),((i+1:Nat):Int))) else some (.inr false):=by
    simp only[gQ3d,dT_ (show (i:Int)<l.length by omega),cT_,dT_ h100,q9,hx,oB_,e1,qam (hf _ hm),qg h0 (show l.length<=9223372036854775807 by omega),show tQan l[i] 32=some (q47 32 l[i]:Int) from qto l[i] 32 (by decide) (hf _ hm)]
    by_cases c1:q5a l[i] (100:Nat)=true
    .have hnn:=ql9 c1
     rw[c1,nT_,cF_]
     by_cases c2:qx l[i]=0
     .rw[dT_ c2,nT_,cF_]
      by_cases c3:q47 32 l[i]<=300
      .rw[dF_ (show ¬(q47 32 l[i]:Int) > 300 by omega),cF_,qui l[i] (by omega),oB_,qy (by omega) (by omega),if_pos ⟨rfl,c2,c3⟩];rfl
      .rw[dT_ (show (q47 32 l[i]:Int) > 300 by omega),cT_,if_neg (fun h=>c3 h.2.2)]
     .rw[dF_ c2,nF_,cT_,if_neg (fun h=>c2 h.2.1)]
    .rw[eq_false_of_ne_true c1,nF_,cT_,if_neg (fun h=>by cases h.1)]
   rw[step]
   by_cases hc:q5a l[i] (100:Nat)=true/\qx l[i]=0/\q47 32 l[i]<=300
   .rw[if_pos hc]
    have hnn:=ql9 hc.1
    refine .inl ⟨_,rfl,⟨i+1,n+q2k l[i],rfl,h0,by omega,?_,fun v hm2=>?_⟩,by simp only[Int.toNat_natCast];omega⟩
    .rw[List.drop_eq_getElem_cons h0,q5t]at hs;omega
    .rw[List.take_add_one,hx]at hm2
     rcases mA_.1 hm2 with hm2|hm2
     .exact hv v hm2
     .have:v=l[i]:=by simpa using hm2
      subst this;exact ⟨ck_of (hf _ hm) hc.2.1,hc.2.2⟩
   .rw[if_neg hc]
    exact .inr ⟨false,rfl,fun h=>by cases h⟩) (0,0) ⟨0,0,rfl,Nat.zero_le _,by omega,by simp,by simp⟩
 exact ⟨q,h1,h2⟩
theorem Few18.args {l:List Val} (h:Few18 l):Args l:=⟨h.len,h.ck,fun v hv=>by have:=qbw hv;have:=h.nodes;omega⟩
open Go.RowKit
theorem ar_nm (k:Nm):gQ0l (nmB k)=some ((spB k).least,(spB k).most,true):=by
 unfold gQ0l
 rw[qdv,oB_];rfl
theorem qp5 {n:ByteArray} (h:∀k,n≠nmB k):gQ0l n=some (0,0,false):=by
 unfold gQ0l
 rw[qiu h,oB_];rfl
open Go.RowKit
theorem q9h {v:Val} (h6:v.kind≠6) (h:∀x∈v.items,qc x=true):qc v=true:=by
 rw[q87,Bool.and_eq_true,decide_eq_true_eq,List.all_eq_true]
 exact ⟨h6,h⟩
theorem q5r {l:List Val} (h:∀x∈l,qc x=true):qc (lV l)=true:=q9h (show (4:Int)≠6 by decide) h
theorem kn_s {k n:Int} {s:ByteArray} (h:k≠6):qc (Val.mk k n s [] [])=true:=q9h h fun _ h=>absurd h mN_
theorem kn_Z:qc vZ=true:=kn_s (by decide)
theorem kn_T (s:ByteArray):qc (vText s)=true:=kn_s (by decide)
theorem kn_N (n:Int):qc (vNum n)=true:=kn_s (by decide)
theorem kn_B (b:Bool):qc (bV b)=true:=kn_s (by decide)
theorem qk9 (l:List ByteArray):qc (lV (l.map vText))=true:=q5r fun x hx=>by
 obtain ⟨s,_,rfl⟩:=List.mem_map.1 hx
 exact kn_T s
theorem qt4 (a b:Int):qc (q3s a b).1=true:=by
 unfold q3s
 split
 .exact kn_Z
 .refine q5r fun x hx=>?_
  obtain ⟨i,_,rfl⟩:=List.mem_map.1 hx
  exact kn_N _
theorem qk8:∀(l:List Val) (n:Int),qc (sumS n l).1=true
 | [],n=>kn_N n
 | v::r,n=>by
  rw[sumS];split
  .exact qk8 r _
  .exact kn_Z
theorem qt1 {l:List Val} {v:Val} (hl:∀x∈l,qc x=true) (hv:qc v=true):qc (q4g l v)=true:=by
 unfold q4g
 cases h:(l.any fun x=>qu x v)
 .rw[cF_]
  have:(l.all fun x=>difV x v)=true:=by
   rw[List.any_eq_false]at h
   rw[List.all_eq_true]
   intro x hx
   have:=h x hx
   rw[qcr (hl x hx) hv]at this
   simpa using this
  rw[this];exact kn_B _
 .exact kn_B _
theorem qk5:∀(r pre acc:List Val),(∀x∈pre,qc x=true)->(∀x∈acc,qc x=true)->(∀x∈r,qc x=true)->qc (q2i pre acc r)=true
 | [],pre,acc,h0,h1,h2=>by rw[q2i];exact q5r h1
 | x::r,pre,acc,h0,h1,h2=>by
  have hx:=h2 x mS_
  rw[qap]
  have:(pre.any fun y=>!qu x y&&!difV x y)=false:=by
   rw[List.any_eq_false]
   intro y hy
   rw[qcr hx (h0 y hy)]
   cases difV x y<;>decide
  rw[this,cF_]
  refine qk5 r (pre++[x]) _ (fun y hy=>?_) (fun y hy=>?_) fun y hy=>h2 y (mC_ _ hy)
  .rcases mA_.1 hy with hy|hy
   .exact h0 y hy
   .rw[m1_.1 hy];exact hx
  .revert hy
   cases (pre.any fun y=>qu x y)
   .intro hy
    rcases mA_.1 hy with hy|hy
    .exact h1 y hy
    .rw[m1_.1 hy];exact hx
   .exact h1 y
theorem qrx (x:Val):qc x=true->∃z,q6w x=some z:=by
 induction x using wfV.induction with
 | h x ih =>
  intro hx
  rw[q9b,if_neg (q24 hx)]
  split
  .have key:∀(l:List Val),(∀v∈l,v∈x.items)->∃z,q15 l=some z:=by
    intro l
    induction l with
    | nil=>intro _;exact ⟨[],q6a⟩
    | cons v r ihr =>
     intro hl
     obtain ⟨p,h1⟩:=ih v (hl v mS_) (q3g hx v (hl v mS_))
     obtain ⟨q,h2⟩:=ihr fun w hw=>hl w (mC_ _ hw)
     exact ⟨p++q,by rw[q69,h1,h2];rfl⟩
   exact key x.items fun _ h=>h
  .exact ⟨_,rfl⟩
theorem qiy:∀(l:List Val),(∀x∈l,qc x=true)->∃z,q15 l=some z
 | [],_=>⟨[],q6a⟩
 | v::r,h=>by
  obtain ⟨p,h1⟩:=qrx v (h v mS_)
  obtain ⟨q,h2⟩:=qiy r fun w hw=>h w (mC_ _ hw)
  exact ⟨p++q,by rw[q69,h1,h2];rfl⟩
theorem qk6 {v:Val} (hv:qc v=true):∀(l:List Val) (i:Nat),(∀x∈l,qc x=true)->qc (q2q v i l).1=true
 | [],i,_=>by rw[q2q];exact kn_Z
 | x::r,i,h=>by
  rw[qay,qcr (h x mS_) hv]
  cases difV x v
  .exact kn_N _
  .exact qk6 hv r (i+1) fun y hy=>h y (mC_ _ hy)
theorem qt2:∀(ks:List ByteArray) (xs:List Val) (n:ByteArray),(∀x∈xs,qc x=true)->qc (look ks xs n)=true:=fun ks xs n h=>by
 rcases qbm ks xs n with e|e
 .exact h _ e
 .rw[e];exact kn_Z
theorem qt3 {m k:Val} {d:Option Val} (hm:qc m=true) (hk:qc k=true) (hd:∀x,d=some x->qc x=true):qc (q57 m k d).1=true:=by
 unfold q57
 rw[if_neg (fun h=>h.elim (q24 hm) (q24 hk))]
 cases hasB m.keys k.str
 .cases d with
  | none=>exact kn_Z
  | some x=>exact hd x rfl
 .exact qt2 _ _ _ (q3g hm)
theorem qk7 {m:List (ByteArray×Val)} (hn:(m.map (·.1)).Nodup) (h:∀p∈m,qc p.2=true):qc (q1m (q1l [] m))=true:=by
 obtain ⟨_,f2,_⟩:=q7z m ([]:List (ByteArray×Val)) List.Pairwise.nil hn (fun _ _ q hq=>absurd hq mN_)
 refine q9h (show (5:Int)≠6 by decide) fun x hx=>?_
 obtain ⟨p,hp,rfl⟩:=List.mem_map.1 (show x∈(q1l [] m).map (·.2) from hx)
 exact h p (((f2 p).1 hp).elim (fun h=>absurd h mN_) id)
theorem qnr:∀(l:List Val) (acc ks:List ByteArray),(∀x∈l,x.kind≠6)->acc.Nodup->zipE acc l=some ks->ks=acc++l.map Val.str/\ks.Nodup
 | [],acc,ks,_,h1,h2=>by rw[zipE]at h2;obtain rfl:=Option.some.inj h2;exact ⟨by simp,h1⟩
 | x::r,acc,ks,h0,h1,h2=>by
  rw[zipE,if_neg (h0 x mS_)]at h2
  cases hb:hasB acc x.str with
  | true=>rw[hb]at h2;cases h2
  | false =>
   rw[hb,cF_]at h2
   have:=qnr r (acc++[x.str]) ks (fun y hy=>h0 y (mC_ _ hy)) (by
    rw[List.nodup_append]
    refine ⟨h1,by simp,fun y hy z hz e=>?_⟩
    have:z=x.str:=by simpa using hz
    subst this;subst e
    rw[q52.2 hy]at hb;cases hb) h2
   exact ⟨by rw[this.1];simp,this.2⟩
theorem kn_zip {k v:Val} (hk:qc k=true) (hv:qc v=true) (k4:k.kind=4\/k.kind=6) (v4:v.kind=4\/v.kind=6):qc (zipS k v).1=true:=by
 unfold zipS
 split
 .exact kn_Z
 rename_i hd
 split
 .exact kn_Z
 rename_i ks hz
 rw[if_neg (fun h=>h.elim (fun h=>by rw[hk]at h;cases h) (q24 hv))]
 have a1:=q24 hk
 have a2:=q24 hv
 have he:k.items.length=v.items.length:=by
  by_cases e:k.items.length=v.items.length
  .exact e
  .exact absurd ⟨by omega,by omega,e⟩ hd
 obtain ⟨e,nd⟩:=qnr k.items [] ks (fun x hx=>q24 (q3g hk x hx)) List.nodup_nil hz
 rw[List.nil_append]at e
 have hkl:ks.length=v.items.length:=by rw[e,lM_,he]
 exact qk7 (by rw[List.map_fst_zip (by omega)];exact nd) fun p hp=>q3g hv _ (List.of_mem_zip hp).2
theorem qlv (P:Val->Prop):∀(ps m:List (ByteArray×Val)),(∀p∈m,P p.2)->(∀p∈ps,P p.2)->∀p∈q2n m ps,P p.2
 | [],m,h,_,p,hp=>h p hp
 | q::r,m,h,h2,p,hp=>qlv P r (mput m q.1 q.2) (fun x hx=>by
   rcases qf1 x hx with rfl|hx
   .exact h2 q mS_
   .exact h x hx) (fun x hx=>h2 x (mC_ _ hx)) p hp
theorem qkt (P:Val->Prop):∀(l:List Val) (m:List (ByteArray×Val)),(∀p∈m,P p.2)->(∀v∈l,∀s∈v.items,P s)->∀p∈q48 m l,P p.2
 | [],m,h,_,p,hp=>h p hp
 | v::r,m,h,h2,p,hp=>qkt P r (q2n m (v.keys.zip v.items)) (qlv P _ m h fun q hq=>h2 v mS_ q.2 (List.of_mem_zip hq).2) (fun x hx=>h2 x (mC_ _ hx)) p hp
theorem qud {m:List (ByteArray×Val)} {k:ByteArray} {v:Val} (h:(m.map (·.1)).Nodup):((mput m k v).map (·.1)).Nodup:=by
 rw[qf0]
 split
 .exact h
 .rename_i hn
  rw[List.nodup_append]
  refine ⟨h,by simp,fun y hy z hz e=>hn (qkw.2 ?_)⟩
  have:z=k:=by simpa using hz
  subst this;subst e;exact hy
theorem qfg:∀(ps m:List (ByteArray×Val)),(m.map (·.1)).Nodup->((q2n m ps).map (·.1)).Nodup
 | [],m,h=>h
 | q::r,m,h=>qfg r (mput m q.1 q.2) (qud h)
theorem qks:∀(l:List Val) (m:List (ByteArray×Val)),(m.map (·.1)).Nodup->((q48 m l).map (·.1)).Nodup
 | [],m,h=>h
 | v::r,m,h=>qks r _ (qfg _ m h)
theorem qed {k:Int} (hk:k=1\/k=2\/k=3) {v:Val} (c:Ck v) (h:qc v=true):qc (tocS k v).1=true:=by
 unfold tocS
 split
 .exact h
 .cases qao hk c with
  | unk e _=>rw[e]at h;cases h
  | @val x _ _ hx2 hx3 hx h2 =>
   rw[h2]
   refine q9h (by show x.kind≠6;rw[hx3];rcases hk with rfl|rfl|rfl<;>decide) fun y hy=>?_
   have hy:y∈x.items:=hy
   rw[hx2]at hy;exact absurd hy mN_
  | bad _ h2=>rw[h2];exact kn_Z
theorem qol {k:Nm} {l:List Val} (ha:Args l) (hb:arOk k l=true) (hf:q37 k l=true) (hk:∀v∈l,qc v=true):qc (apS k l).1=true:=by
 have g0:qc (a0 l)=true:=by
  unfold a0
  cases l with
  | nil=>exact kn_Z
  | cons a r=>exact hk a mS_
 have g1:qc (a1 l)=true:=by
  unfold a1
  match l,hk with
  | [],_=>exact kn_Z
  | [a],_=>exact kn_Z
  | a::b::r,hk=>exact hk b (by simp)
 have i0:=q3g g0
 have h1:(spB k).least=1->Ck (a0 l):=fun h=>by
  obtain ⟨a,r,rfl⟩:=q4q hb h
  exact ha.ck a mS_
 cases k
 case nAbs=>exact kn_N _
 case nMax =>
  obtain ⟨a,r,rfl⟩:=q4q hb rfl
  show qc (extS 1 a r)=true
  rcases qas 1 r a with h|h
  .rw[h];exact hk a mS_
  .exact hk _ (mC_ _ h)
 case nMin =>
  obtain ⟨a,r,rfl⟩:=q4q hb rfl
  show qc (extS (-1) a r)=true
  rcases qas (-1) r a with h|h
  .rw[h];exact hk a mS_
  .exact hk _ (mC_ _ h)
 case nRange=>show qc (if l.length=1 then _ else _:Val×Int).1=true;split<;>exact qt4 _ _
 case nSum=>exact qk8 _ _
 case nEndswith=>exact kn_B _
 case nStartswith=>exact kn_B _
 case nJoin=>exact kn_T _
 case nLower=>exact kn_T _
 case nUpper=>exact kn_T _
 case nTrim=>exact kn_T _
 case nReplace =>
  show qc (q59 _ _ _).1=true
  unfold q59
  split
  .exact kn_Z
  split
  .exact kn_Z
  .exact kn_T _
 case nSplit =>
  show qc (q5b _ _).1=true
  unfold q5b
  split
  .exact kn_Z
  .exact qk9 _
 case nContains =>
  show qc (if _ then _ else _:Val×Int).1=true
  rw[if_neg (q24 g0)]
  exact qt1 i0 g1
 case nDistinct =>
  show qc (if _ then _ else _:Val×Int).1=true
  rw[if_neg (q24 g0)]
  exact qk5 _ _ _ (fun _ h=>absurd h mN_) (fun _ h=>absurd h mN_) i0
 case nFlatten =>
  show qc (if _ then _ else _:Val×Int).1=true
  rw[if_neg (q24 g0)]
  obtain ⟨z,hz⟩:=qiy _ i0
  rw[hz]
  exact q5r (qdy (fun x=>qc x=true) (fun x hx y hy=>q3g hx y hy) _ z i0 hz)
 case nIndex =>
  show qc (if _ then _ else _:Val×Int).1=true
  rw[if_neg (q24 g0)]
  exact qk6 g1 _ _ i0
 case nKeys=>exact qk9 _
 case nValues=>exact q5r i0
 case nLookup=>exact qt3 g0 g1 fun x hx=>hk x (List.mem_of_getElem? hx)
 case nZipmap =>
  obtain ⟨a,b,rfl⟩:=q32 hb rfl rfl
  exact kn_zip g0 g1 (q7y (q1u hf (i:=0) rfl)).1 (q9a (q1u hf (i:=1) rfl))
 case nMerge=>exact qk7 (qks l [] List.nodup_nil) (qkt (fun x=>qc x=true) l [] (fun _ h=>absurd h mN_) fun v hv=>q3g (hk v hv))
 case nCoalesce =>
  show qc (q41 l)=true
  rcases qdg l with h|h
  .rw[h];exact kn_Z
  .exact hk _ h
 case nTobool=>exact qed (.inl rfl) (h1 rfl) g0
 case nTonumber=>exact qed (.inr (.inl rfl)) (h1 rfl) g0
 case nTostring=>exact qed (.inr (.inr rfl)) (h1 rfl) g0
 case nConcat =>
  refine q5r fun x hx=>?_
  obtain ⟨v,hv,hx⟩:=List.mem_flatMap.1 hx
  exact q3g (hk v hv) x hx
 case nElement =>
  show qc (q36 (a0 l) (a1 l)).1=true
  have hne:(q36 (a0 l) (a1 l)).1≠vU\/(q36 (a0 l) (a1 l)).1∈(a0 l).items:=by
   unfold q36
   split
   .exact .inl (fun h=>by cases h)
   rw[if_neg (fun h=>h.elim (q24 g0) (q24 g1))]
   show (a0 l).items.getD _ vZ≠vU\/(a0 l).items.getD _ vZ∈_
   rw[List.getD_eq_getElem?_getD]
   cases h:(a0 l).items[((a1 l).num % ((a0 l).items.length:Int)).toNat]? with
   | none=>exact .inl (fun h=>by cases h)
   | some x=>exact .inr (List.mem_of_getElem? h)
  rcases qid (l:=a0 l) (n:=a1 l) with h|h|h
  .rw[h];exact kn_Z
  .rcases hne with h2|h2
   .exact absurd h h2
   .exact i0 _ h2
  .exact i0 _ h
 case nLength=>exact kn_N _
 case nReverse=>exact q5r fun x hx=>i0 x (List.mem_reverse.1 hx)
 case nSlice =>
  show qc (q77 _ _ _).1=true
  unfold q77
  split
  .exact kn_Z
  .exact q5r fun x hx=>i0 x (List.drop_subset _ _ (List.take_subset _ _ hx))
 case nSort =>
  refine q5r fun x hx=>?_
  obtain ⟨s,hs,rfl⟩:=List.mem_map.1 hx
  exact kn_T s
theorem qve {k:Nm} {l:List Val} (hk:∀v∈l,qc v=true):q17 k l=false:=by
 unfold q17
 rw[List.any_eq_false]
 rintro ⟨v,i⟩ hp
 rw[List.mem_zipIdx_iff_getElem?]at hp
 have h:=hk v (List.mem_of_getElem? hp)
 simp[h,q24 h]
theorem qrh {r:Val×Int} (hf:r.1.Fits):(finS r).1.Fits/\((finS r).2=0->qx (finS r).1=0)/\(qc r.1=true->qc (finS r).1=true):=by
 unfold finS
 by_cases h:r.2=0
 .rw[if_pos h]
  by_cases hc:qx r.1=0
  .rw[if_pos hc];exact ⟨hf,fun _=>hc,id⟩
  .rw[if_neg hc];exact ⟨q23,fun h=>absurd h hc,fun _=>kn_Z⟩
 .rw[if_neg h];exact ⟨q23,fun h2=>absurd h2 h,fun _=>kn_Z⟩
theorem qq0 {k:Nm} {l:List Val} (ha:Args l) (hb:arOk k l=true):(q65 k l).1.Fits/\((q65 k l).2=0->qx (q65 k l).1=0)/\((∀v∈l,qc v=true)->qc (q65 k l).1=true):=by
 unfold q65
 by_cases h1:q37 k l=false
 .rw[if_pos h1];exact ⟨q23,fun h=>(by cases h),fun _=>kn_Z⟩
 rw[if_neg h1]
 by_cases h2:((spB k).strict&&q17 k l)=true
 .rw[if_pos h2]
  refine ⟨q3m,fun _=>qgd.ck,fun hk=>?_⟩
  rw[qve hk,Bool.and_false]at h2;cases h2
 rw[if_neg h2]
 obtain ⟨f1,f2,f3⟩:=qrh (qgz ha hb (eq_true_of_ne_false h1) (eq_false_of_ne_true h2))
 exact ⟨f1,f2,fun hk=>f3 (qol ha hb (eq_true_of_ne_false h1) hk)⟩
theorem qq2 (name:ByteArray) {l:List Val} (ha:Args l):∃r,gQ0n name l=some r/\r.1.Fits/\(r.2=0->qx r.1=0)/\((∀v∈l,qc v=true)->qc r.1=true):=by
 rcases nm_or name with ⟨k,rfl⟩|ho
 .by_cases hb:arOk k l=true
  .exact ⟨_,qhl ha hb,qq0 ha hb⟩
  .exact ⟨_,qhi (eq_false_of_ne_true hb),q23,fun h=>(by cases h),fun _=>kn_Z⟩
 .exact ⟨_,qhj ho l,q23,fun h=>(by cases h),fun _=>kn_Z⟩
end Abs
end Go.Proofs.YtagadjpmkggjdaaGreatDoor
