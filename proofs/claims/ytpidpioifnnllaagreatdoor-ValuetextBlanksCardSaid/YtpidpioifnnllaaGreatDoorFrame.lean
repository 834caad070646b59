/-
  The frame of laws: what a row's list of variables gives, and a start that meets it.
-/
import Derived.Test.YtpidpioifnnllaaGreatDoorCards
import Derived.Test.YtpidpioifnnllaaGreatDoorTie
import Derived.Test.YtpidpioifnnllaaGreatDoorABr
import Derived.Test.YtpidpioifnnllaaGreatDoorOpV
import Derived.ProofKit
import Derived.OpenShut
import Derived.LaidMore
import Derived.LaidHandle
import Derived.SizedLaws
import Derived.Stop.LaidErr
import Derived.Stop.Joined
import Derived.MakeChecks
import Derived.SevenTiedAt
import Derived.Lib.LaidIn
import Derived.Lib.LaidU8T
import Derived.PinnedBridge
import Derived.Shelf.Vars
namespace Go.Proofs.YtpidpioifnnllaaGreatDoor
set_option linter.unusedSimpArgs false
set_option linter.unusedVariables false
open Go.ChangeShapes Go.WideShapes Go.ChangeAt Go.RowKit
open Go.ChangeMaps (open_string shut_string)
section
variable {H : Type} {enc : TypeId × Value → H} {P : Program}
theorem q9d {f:Func} {s:ChangeSpec} {apart fresh handsOn again:Bool} {W W':World} {args:Array Value} {v:Value} {ds gs:List (DataW H)} {before pa pv:List MemPlace}
  (hW:DataW.Whole enc P f.params.toList s.vars apart W args.toList ds gs before)
  (hres:∀ (b:Nat) (sp:Nat→Bool) (hd:Bool),DataW.TrodAll enc P W' b sp hd f.resultTypes.toList (v.resultList f.resultTypes.size) (s.fn H (ds++gs)).results [])
  (hargs:∀ sp:Nat→Bool,(∀ p ∈ before,sp p.block=true)→DataW.TrodAll enc P W' 0 sp true f.params.toList args.toList (s.fn H (ds++gs)).args pa)
  (hvars:∀ sp:Nat→Bool,(∀ p ∈ before,sp p.block=true)→DataW.TrodVars enc P W' sp s.vars (s.fn H (ds++gs)).vars pv)
  (hps:before=pa++pv) (hb:Below W.heap.size W W')
  (hok:∀ (j:Nat) (t:TypeId) (r:Value),f.resultTypes[j]?=some t→(v.resultList f.resultTypes.size)[j]?=some r→Value.okWide P W' .any 0 t r) :
  s.post enc P f apart fresh handsOn again W args v W':=by
 have hlt:∀ p ∈ before,p.block < W.heap.size:=fun p hp=>hW.lt p hp
 have hold:∀ p ∈ before,(fun b=>decide (b < W.heap.size)) p.block=true:=fun p hp=>by simpa using hlt p hp
 refine ⟨ds,gs,before,[],pa,pv,hW,hres _ _ _,hargs _ hold,hvars _ hold,World.keptBut_mono (fun p hp=>⟨hp,?_⟩) (hb.frame (· ∈ before)),fun _=>?_⟩
 ·rw[hps,List.mem_append]at hp
  exact Or.inr hp
 ·obtain ⟨_,_,_,_,_,hz,hn⟩:=hW
  refine ⟨hok,_,_,([]++pa)++pv,⟨[]++pa,pv,trodAll_append (hargs _ (fun _ _=>rfl)) (hres _ _ _),hvars _ (fun _ _=>rfl),rfl,?_,?_⟩,?_⟩
  ·intro b off hp
   have hin:MemPlace.cell b off ∈ before:=by rw[hps]; simpa using hp
   rw[hb.frozen (hlt _ hin)]
   exact hz b off hin
  ·intro ha
   have:=hn ha
   rw[hps]at this
   simpa using this
  ·intro p hp _
   rw[hps]
   simpa using hp
end
theorem own:ownKnob Tryz.prog.godebug=none:=by kernel_rfl
theorem gPow : Tryz.prog.globalNamed "internal/strconv.uint64pow10" = some 3 := by kernel_rfl
theorem gPowT:(Tryz.prog.globals[3]?).map (·.type)=some 165:=by kernel_rfl
theorem cPow:Tryz.prog.cellsOf 165=20:=by kernel_rfl
theorem cU64:Tryz.prog.cellsOf 114=1:=by kernel_rfl
theorem gER : Tryz.prog.globalNamed "strconv.ErrRange" = some 5 := by kernel_rfl
theorem gERT:(Tryz.prog.globals[5]?).map (·.type)=some 62:=by kernel_rfl
theorem cES:Tryz.prog.cellsOf 198=1:=by kernel_rfl
theorem cStr:Tryz.prog.cellsOf 9=1:=by kernel_rfl
theorem star : "*" ++ "errors.errorString" = "*errors.errorString" := by decide
theorem rowES (u : TypeId) (h : Tryz.prog.typeName? 3 u = some "*errors.errorString") : u = 196 :=
 typeName_ptr_named (nm := "errors.errorString") (by rw [star]; kernel_rfl) (by kernel_rfl) (by decide) u (by rw [star]; exact h)
def laid7 : List (String × DataW Unit) := [("math/bits.deBruijn32tab", Rows.laid_math_bits_deBruijn32tab), ("math/bits.deBruijn64tab", Rows.laid_math_bits_deBruijn64tab), ("internal/strconv.uint64pow10", Rows.laid_internal_strconv_uint64pow10), ("unicode/utf8.acceptRanges", Rows.laid_unicode_utf8_acceptRanges), ("strconv.ErrRange", Rows.laid_strconv_ErrRange), ("strconv.ErrSyntax", Rows.laid_strconv_ErrSyntax), ("unicode/utf8.first", Rows.laid_unicode_utf8_first)]
noncomputable def q1z (os:Os):World :=
 let w0:=World.doorLaid Tryz.prog 400 os
 { w0 with heap:=w0.heap.modify 1 fun
  | .cells _ t frozen=>.cells (Lib.firstTab.map fun z=>Value.int .u8 z).toArray t frozen
  | o=>o }
theorem q8n (os:Os) (args:Array Value):laidMetH Tryz.prog laid7 ((q1z os).forCall (fun _ _=>0) ⟨#[],args,[]⟩).memory :=
 laidMetH_of_parts3 (fuel:=8) (laidMet_of_run' 8 (by kernel_rfl) (by kernel_rfl)) (by kernel_rfl) (by kernel_rfl)
theorem q8o (os:Os) (args:Array Value):((q1z os).forCall (fun _ _=>0) ⟨#[],args,[]⟩).Shaped Tryz.prog :=
 World.shaped_of_RefB (by kernel_rfl) (by kernel_rfl)
theorem qow:Rows.laid_unicode_utf8_acceptRanges=Lib.acceptData:=by kernel_rfl
theorem qr3:Rows.laid_unicode_utf8_first=Lib.firstData:=Pinned.utf8First_eq
theorem qis {W:World} (h:laidMetH Tryz.prog laid7 W):Env W∧Lib.Utf8Tabs (Tryz.lays196_ren.g 3) (Tryz.lays196_ren.g 4) W:=by
 rw[MakeChecks.laidMetH_plain _ _ _ (by kernel_rfl)]at h
 have h3:=laidMet.tail (laidMet.tail h)
 have h4:=laidMet.tail h3
 have h5:=laidMet.tail h4
 obtain ⟨a,s,hv,_⟩:=laid_sentinel h5 gER gERT Tryz.underlying62 rowES Tryz.underlying196 Tryz.underlying198 rfl rfl Tryz.underlying9 cES cStr
 have r4:=Lib.laidMet.reads h (.tail _ (.tail _ (.tail _ (.head _))))
 have r7:=Lib.laidMet.reads h (.tail _ (.tail _ (.tail _ (.tail _ (.tail _ (.tail _ (.head _)))))))
 rw[qow]at r4
 rw[qr3]at r7
 exact ⟨⟨Lib.tabIs_of_head (zs:=Lib.pow10Tab) gPow gPowT Tryz.underlying165 Tryz.underlying114 cU64 cPow h3,_,_,hv⟩,
  utf8Tabs_of_readsT (U8Types.of196 Tryz.lays196) ⟨by kernel_rfl,by kernel_rfl,by kernel_rfl,by kernel_rfl,by kernel_rfl,by kernel_rfl,by kernel_rfl⟩ r7 r4⟩
theorem qt8 {W:World} (h:W.ShapedOpen Tryz.prog):∃ m,W.cell? ⟨0,0,none⟩=some (.int .i64 m) :=
 cell_of_shapedOpen_int (zero:=#[.int .i64 0]) (t:=3) h (of_decide_eq_true (by kernel_rfl)) (by kernel_rfl) rfl (by kernel_rfl) (by kernel_rfl) Tryz.underlying3
theorem gDeb : Tryz.prog.globalNamed "math/bits.deBruijn64tab" = some 7 := by kernel_rfl
theorem gDebT:(Tryz.prog.globals[7]?).map (·.type)=some 193:=by kernel_rfl
theorem cDeb:Tryz.prog.cellsOf 193=64:=by kernel_rfl
theorem cU8:Tryz.prog.cellsOf 5=1:=by kernel_rfl
def debTab:List Int:=[0,1,56,2,57,49,28,3,61,58,42,50,38,29,17,4,62,47,59,36,45,43,51,22,53,39,33,30,24,18,12,5,63,55,48,27,60,41,37,16,46,35,44,21,52,32,23,11,54,26,40,15,34,20,31,10,25,14,19,9,13,8,7,6]
theorem qq9 {W:World} (h:laidMetH Tryz.prog laid7 W):W.cell? ⟨7,15,none⟩=some (.int .u8 4):=by
 rw[MakeChecks.laidMetH_plain _ _ _ (by kernel_rfl)]at h
 exact (Lib.tabIs_of_head (k:=.u8) (zs:=debTab) gDeb gDebT Tryz.underlying193 Tryz.underlying5 cU8 cDeb (laidMet.tail h)).cell gDeb 15 (by decide)
theorem q8q {W:World} (h:laidMetH Tryz.prog laid7 W)
  (hs:W.ShapedOpen Tryz.prog)
  : EnvV W where
 env:=(qis h).1
 tabs:=(qis h).2
 deb:=qq9 h
 maxlen:=qt8 hs
theorem q8w {H:Type} {enc:TypeId×Value→H} {a:Assume} {C:Checked} {os:Os} {f:FuncId} {fn:Func} {s:ChangeSpec} {conds:List PathCond} {apart fresh handsOn again:Bool} {X:World→Array Value→Prop}
  (hX:∀ (w w':World) (args:Array Value),w.heap=w'.heap→X w args→X w' args)
  (own:ownKnob C.prog.godebug=none) (started:os.Started) (noInit:C.prog.inits.idxOf? f=none) (hfn:C.prog.funcs[f]?=some fn)
  (witness:∃ (w:World) (tape:Tape) (i:Input),w.os=os∧(w.forCall tape i).Shaped C.prog∧i.vars=[]∧Input.okWide C.prog (w.forCall tape i) .any w.heap.size f i ∧
   ((s.pre enc C.prog fn conds apart (w.forCall tape i).memory i.args∧X (w.forCall tape i).memory i.args)∧sizedMet enc C.prog fn (OpenSpec.ofChange s) apart (w.forCall tape i).memory i.args)∧a.holds C.prog (lone (Frame.enter C.prog f i.args .normal) [] (w.forCall tape i)))
  (contract:∀ (W:World) (base:Nat) (args:Array Value) (ds gs:List (DataW H)) (before:List MemPlace),
   (∀ (j:Nat) t v,fn.params[j]?=some t→args[j]?=some v→Value.okWide C.prog W .any base t v) →
   DataW.Whole enc C.prog fn.params.toList s.vars apart W args.toList ds gs before →
   (DataW.weightsEach C.prog (fn.params.toList++s.plain.varTypes C.prog) (ds++gs)).all (·≤reachBytes)=true→X W args→W.ShapedOpen C.prog →
   Calls C.prog f args W fun e W'=>∃ v,e=.returned v∧s.post enc C.prog fn apart fresh handsOn again W args v W') :
  ReturnsInHanded a C os f .any (fun w args=>(s.pre enc C.prog fn conds apart w args∧X w args)∧sizedMet enc C.prog fn (OpenSpec.ofChange s) apart w args) (s.post enc C.prog fn apart fresh handsOn again):=by
 refine returnsInHanded_of_calls own started noInit witness ?_
 intro w tape i _ hsh _ hok hpre _
 obtain ⟨_,_,_,fn',hfn',_,_,_,_,hval⟩:=hok
 obtain rfl:fn'=fn:=Option.some.inj (hfn'.symm.trans hfn)
 obtain ⟨⟨⟨ds,gs,before,hw,_⟩,hx⟩,hz⟩:=hpre
 refine (contract (w.forCall tape i) w.heap.size i.args ds gs before hval (DataW.Whole.of_heap (w':=w.forCall tape i) (by rfl) hw) (hz.weights hw) (hX _ _ _ (by rfl) hx) hsh).mono fun e W' ⟨v,he,hp⟩=>?_
 subst he
 exact ChangeSpec.post_blind hp
open Abs in
/-- The environment of a call: what lies below its start. -/
theorem qpk {W:World}:Base (fun w=>Below W.heap.size W w) W.heap.size (fun _=>none) :=
 ⟨fun _ _ h k=>h.trans k,fun _ _ _ _ h=>by cases h⟩
open Abs in
/-- From a contract by values to the call. -/
theorem q9k {W:World} {f:FuncId} {args:List AV} {vs:Array Value} {b:Bool} (hE:EnvV W)
  (h:∀ E E0 G,Base E E0 G→(∀ w,E w→EnvV w)→Pure E E0 Tryz.prog f args (c1 (vB b)))
  (ha:All2 (q9 (Cx.bare W.heap.size W.heap.size fun _ _=>True) W) args vs.toList) :
  Calls Tryz.prog f vs W fun e w'=>e=.returned (.bool b)∧Below W.heap.size W w':=by
 have:=h _ _ _ (qpk (W:=W)) (fun w hw=>hE.keep hw) (fun _ _=>True) W vs.toList (Below.refl _ _) (Nat.le_refl _) (fun _ _ _=>trivial) ha
 rw[show vs.toList.toArray=vs by simp]at this
 refine this.mono ?_
 rintro e w' ⟨v,rfl,hb,_,hr⟩
 unfold TRep q9 CRep PRep at hr
 rw[hr.1]
 exact ⟨rfl,hb⟩
theorem q5w {H:Type} {P:Program} {ts:List TypeId} {ds:List (DataW H)} (h:(DataW.weightsEach P ts ds).all (·≤reachBytes)=true) {j:Nat} {t:TypeId} {d:DataW H} (ht:ts[j]?=some t) (hd:ds[j]?=some d):∀ m ∈ d.weights P t,m≤reachBytes:=by
 intro m hm
 have:=List.all_eq_true.1 h _ (DataW.weights_mem_each ht hd m hm)
 simpa using this
theorem qs9:laidOutB Tryz.prog=true:=by kernel_rfl
theorem q5v {H:Type} {enc:TypeId×Value→H} {t:TypeId} (hr:Tryz.prog.readableRec t=true) (hrow:t < Tryz.prog.types.size) {W W':World} {v:Value} {d:DataW H} {ps:List MemPlace}
  (h:DataW.Trod enc Tryz.prog W 0 (fun _=>true) true t v d ps) (hb:Below W.heap.size W W') (hlt:∀ x ∈ ps,x.block < W.heap.size) (sp:Nat→Bool) (hsp:∀ x ∈ ps,sp x.block=true) :
  DataW.Trod enc Tryz.prog W' 0 sp true t v d ps :=
 WideElems.Trod_stays qs9 hr hrow h (fun x hx=>hb.same (hlt x hx)) hsp
end Go.Proofs.YtpidpioifnnllaaGreatDoor
