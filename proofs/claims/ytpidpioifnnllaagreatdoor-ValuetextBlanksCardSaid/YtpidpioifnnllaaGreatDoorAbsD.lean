/-
  A pure evaluator over the model's Code: slices that nobody writes are lists of cells; boxes and own arrays lie in a small store. Soundness: AbsE.
  What the evaluator's values stand for in memory, and how that is kept while memory grows.
  The steps from one context to the next: memory grows; an object is born, written, appended to, frozen, dropped.
  Each operation of the evaluator is what the model does: types, loads, stores.
-/
import Derived.WalkKit
import Derived.Orders
import Derived.Lib.Hide
import Derived.Lib.IndexBytes
import Derived.Laws.CopyRow
import Derived.Laws.AppendOwn
import Derived.Laws.StructEq
set_option linter.unusedVariables false
set_option linter.unusedSimpArgs false
namespace Go.Proofs.YtpidpioifnnllaaGreatDoor
namespace Abs
inductive PV where
 | sc (v:Value)
 | sl (full:Bool) (n:Nat) (cs:List PV)
 | pp (cs:List PV)
inductive AC where
 | any
 | undef
 | ubool
 | pv (x:PV)
 | own (id ver off len:Nat)
 | ptr (id ver off:Nat)
 | fn (f:FuncId) (caps:List (Nat×Nat×Nat))
 | mapr (id:Nat)
inductive AV where
 | cell (c:AC)
 | agg (cs:List AC)
inductive TV where
 | one (v:AV)
 | tup (vs:List AV)
 | dead (v:Value)
inductive AObj where
 | box (cells:List AC)
 | arr (cells:List PV) (sz fr:Nat)
 | nilarr (sz:Nat)
 | mp (ag:Bool) (es:List (ByteArray×List PV))
abbrev Sto:=List (Option AObj)
inductive Eff where
 | val (v:TV)
 | new (o:AObj) (v:Nat→TV)
 | upd (σ:Sto) (v:TV)
def AObj.ver:AObj→Nat
 | .box _=>0
 | .arr cs _ _=>cs.length
 | .nilarr _=>0
 | .mp _ _=>0
def AV.cells:AV→List AC
 | .cell c=>[c]
 | .agg cs=>cs
def q4a:Value→Bool
 | .slice none 0 0=>true
 | _=>false
def sc (v:Value):TV:=.one (.cell (.pv (.sc v)))
def qw:TV:=.one (.cell .undef)
def q9a (v:Value):AC:=if v.oneCell' then .pv (.sc v) else .any
def q4y:Value→AV
 | .agg cs=>.agg (cs.toList.map q9a)
 | v=>.cell (q9a v)
def isAgg? (P:Program) (t:TypeId):Option Bool :=
 match P.underlying t with
 | some (.struct _)=>some true
 | some (.array _ _)=>some true
 | some _=>some false
 | none=>none
def size? (P:Program) (t:TypeId):Option Nat:=(P.info? t).map (·.size)
def field? (P:Program) (s:TypeId) (f:Nat):Option (Nat×Nat×Bool) :=
 match P.underlying s with
 | some (.struct fields) =>
  match fields[f]? with
  | some g =>
   match size? P g.type,isAgg? P g.type with
   | some n,some a=>some (g.offset,n,a)
   | _,_=>none
  | none=>none
 | _=>none
def elem? (P:Program) (t:TypeId):Option (TypeId×Nat×Nat) :=
 match P.underlying t with
 | some (.slice e)=>match P.info? e with
  | some i=>some (e,i.size,i.bytes)
  | none=>none
 | _=>none
def array? (P:Program) (t:TypeId):Option (Nat×Nat×Bool) :=
 match P.underlying t with
 | some (.array n e)=>match size? P e,isAgg? P e with
  | some s,some a=>some (n,s,a)
  | _,_=>none
 | _=>none
def q4b (P:Program) (t:TypeId):Bool:=match P.underlying t with | some .string=>true | _=>false
def zero? (P:Program) (t:TypeId):Option AV :=
 match P.info? t with
 | some i=>match i.zero with
  | some z=>some (q4y z)
  | none=>none
 | none=>none
def q9c (P:Program):List Field→Option (List (Nat×Nat))
 | []=>some []
 | f::r=>match size? P f.type,q9c P r with
  | some n,some l=>some ((f.offset,n)::l)
  | _,_=>none
def place? (P:Program) (t:TypeId):Option (Nat→Option (Nat×Nat)) :=
 match P.underlying t with
 | some (.struct fs)=>(q9c P fs.toList).map fun l i=>l[i]?
 | some (.array _ e)=>(size? P e).map fun s i=>some (i*s,s)
 | _=>none
def intKind? (P:Program) (t:TypeId):Option IntKind:=match P.underlying t with | some (.int k)=>some k | _=>none
def qjy (P:Program) (t:TypeId):Option Bool:=match P.underlying t with | some (.interface _)=>some true | some _=>some false | none=>none
def frzC (σ:Sto):AC→Option PV
 | .pv (.sc v)=>some (if q4a v then .sl false 0 [] else .sc v)
 | .pv (.sl _ n cs)=>some (.sl false n cs)
 | .pv (.pp cs)=>some (.pp cs)
 | .own id ver off len=>match σ[id]? with
  | some (some (.arr cells sz _))=>if cells.length=ver then some (.sl false len ((cells.drop off).take (len*sz))) else none
  | some (some (.nilarr _))=>if ver=0∧len=0 then some (.sl false 0 []) else none
  | _=>none
 | _=>none
def frzL (σ:Sto):List AC→Option (List PV)
 | []=>some []
 | c::r=>(frzC σ c).bind fun x=>(frzL σ r).map fun l=>x::l
def frzV (σ:Sto):AV→Option AV
 | .cell c=>(frzC σ c).map fun x=>.cell (.pv x)
 | .agg cs=>(frzL σ cs).map fun l=>.agg (l.map .pv)
def q17 (σ:Sto):List AV→Option (List AV)
 | []=>some []
 | v::r=>(frzV σ v).bind fun x=>(q17 σ r).map fun l=>x::l
def frzT (σ:Sto):TV→Option TV
 | .one v=>(frzV σ v).map .one
 | .tup vs=>(q17 σ vs).map .tup
 | .dead _=>none
def AC.flat:AC→Bool
 | .pv (.sc _)=>true
 | _=>false
def AV.flat:AV→Bool
 | .cell c=>c.flat
 | .agg cs=>cs.all AC.flat
def TV.flat:TV→Bool
 | .one v=>v.flat
 | .tup vs=>vs.all AV.flat
 | .dead _=>false
def q40 (σ:Sto):AC→Sto
 | .own id _ _ _=>match σ[id]? with
  | some (some (.arr cells sz fr))=>σ.set id (some (.arr cells sz (max fr cells.length)))
  | _=>σ
 | _=>σ
def q2u (σ:Sto):List AC→Sto
 | []=>σ
 | c::r=>q2u (q40 σ c) r
def q98 (σ:Sto) (v:AV):Sto:=q2u σ v.cells
def q1o (σ:Sto):List AV→Sto
 | []=>σ
 | v::r=>q1o (q98 σ v) r
def AC.owns:AC→Bool
 | .own ..=>true
 | _=>false
def AV.owns (v:AV):Bool:=v.cells.any AC.owns
def AObj.cells:AObj→List AC
 | .box cs=>cs
 | .arr cs _ _=>cs.map .pv
 | .nilarr _=>[]
 | .mp _ _=>[]
def AObj.two:AObj→Bool
 | .box [_,_]=>true
 | _=>false
def live (σ:Sto) (id ver:Nat):Option AObj :=
 match σ[id]? with
 | some (some o)=>if o.ver=ver then some o else none
 | _=>none
def rd (cs:List AC) (off sz:Nat) (ag:Bool):Option AV :=
 if ag then (if off+sz≤cs.length then some (.agg ((cs.drop off).take sz)) else none) else (cs[off]?).map .cell
def splice {α:Type} (cs:List α) (off:Nat) (vs:List α):Option (List α) :=
 if off+vs.length≤cs.length then some (cs.take off++vs++cs.drop (off+vs.length)) else none
def AC.ok:AC→Bool
 | .any=>false
 | .undef=>false
 | _=>true
def pokes (σ:Sto) (o:AObj) (off:Nat) (vs:List AC):Option AObj :=
 if vs.all AC.ok then
  match o with
  | .box cs=>(splice cs off vs).map .box
  | .arr cs sz fr=>if fr≤off∧vs.any AC.owns=false then (frzL σ vs).bind fun l=>(splice cs off l).map fun cs'=>.arr cs' sz fr else none
  | .nilarr _=>none
  | .mp _ _=>none
 else none
def mval (ag:Bool) (ps:List PV):Option AV :=
 match ag,ps with
 | true,ps=>some (.agg (ps.map .pv))
 | false,[p]=>some (.cell (.pv p))
 | false,_=>none
def mget {β:Type}:List (ByteArray×β)→ByteArray→Option β
 | [],_=>none
 | (k,v)::r,s=>if s=k then some v else mget r s
def mhas {β:Type} (es:List (ByteArray×β)) (s:ByteArray):Bool:=(mget es s).isSome
def q2j {β:Type} (es:List (ByteArray×β)) (s:ByteArray) (z:β):β:=(mget es s).getD z
def mput {β:Type}:List (ByteArray×β)→ByteArray→β→List (ByteArray×β)
 | [],s,v=>[(s,v)]
 | (k,u)::r,s,v=>if s=k then (k,v)::r else (k,u)::mput r s v
def mapT? (P:Program) (t:TypeId):Option TypeId :=
 match P.underlying t with
 | some (.map k e)=>match P.underlying k with
  | some .string=>some e
  | _=>none
 | _=>none
def qa7 (op:BinOp) (k:IntKind) (a b:Int):Option Value :=
 match op with
 | .add=>some (.int k (k.wrap (a+b)))
 | .sub=>some (.int k (k.wrap (a - b)))
 | .mul=>some (.int k (k.wrap (a*b)))
 | .quo=>if b=0 then none else some (.int k (k.wrap (a.tdiv b)))
 | .rem=>if b=0 then none else some (.int k (a.tmod b))
 | .eql=>some (.bool (decide (a=b)))
 | .neq=>some (.bool (!decide (a=b)))
 | .lss=>some (.bool (decide (a < b)))
 | .leq=>some (.bool (decide (a≤b)))
 | .gtr=>some (.bool (decide (a > b)))
 | .geq=>some (.bool (decide (a ≥ b)))
 | .and=>some (.int k (k.wrap (BitVec.ofInt k.bits a &&& BitVec.ofInt k.bits b).toNat))
 | .or=>some (.int k (k.wrap (BitVec.ofInt k.bits a ||| BitVec.ofInt k.bits b).toNat))
 | .xor=>some (.int k (k.wrap (BitVec.ofInt k.bits a ^^^ BitVec.ofInt k.bits b).toNat))
 | .andNot=>some (.int k (k.wrap (BitVec.ofInt k.bits a &&& ~~~(BitVec.ofInt k.bits b)).toNat))
 | .shl=>if b < 0 then none else some (.int k (k.wrap (a*2 ^ (min b.toNat k.bits))))
 | .shr=>if b < 0 then none else some (.int k (a.fdiv (2 ^ (min b.toNat k.bits))))
def q8c (op:BinOp) (a b:ByteArray):Option Value :=
 match op with
 | .add=>if a.size+b.size≤9223372036854775807 then some (.string (a++b)) else none
 | .eql=>some (.bool (decide (a=b)))
 | .neq=>some (.bool (!decide (a=b)))
 | .lss=>some (.bool (Op.bytesLess a.toList b.toList))
 | .leq=>some (.bool (Op.bytesLess a.toList b.toList || decide (a=b)))
 | .gtr=>some (.bool (!(Op.bytesLess a.toList b.toList || decide (a=b))))
 | .geq=>some (.bool (!Op.bytesLess a.toList b.toList))
 | _=>none
def q6t (P:Program) (op:BinOp) (t:TypeId) (x y:Value):Option Value :=
 match x,y with
 | .int k a,.int k' b=>if op=.shl∨op=.shr∨k=k' then qa7 op k a b else none
 | .string a,.string b=>q8c op a b
 | .bool a,.bool b=>match P.underlying t with
  | some .bool=>(match op with
   | .eql=>some (.bool (a == b))
   | .neq=>some (.bool (!(a == b)))
   | _=>none)
  | _=>none
 | _,_=>none
def nilness (σ:Sto):AC→Option Bool
 | .pv (.sc v)=>if q4a v then some true else none
 | .pv (.sl _ n _)=>if 0 < n then some false else none
 | .own id ver _ _=>match live σ id ver with
  | some (.arr _ _ _)=>some false
  | some (.nilarr _)=>some true
  | _=>none
 | _=>none
def q4k (P:Program) (σ:Sto) (op:BinOp) (t:TypeId) (x y:AC):Option Value :=
 match P.underlying t with
 | some (.slice _) =>
  match nilness σ x,nilness σ y with
  | some a,some b =>
   if a || b then
    (match op with
    | .eql=>some (.bool (a && b))
    | .neq=>some (.bool (!(a && b)))
    | _=>none)
   else none
  | _,_=>none
 | _=>none
def q56 (P:Program) (σ:Sto) (op:BinOp) (t:TypeId) (x y:AC):Option Value :=
 match x,y with
 | .pv (.sc a),.pv (.sc b)=>match q6t P op t a b with
  | some v=>some v
  | none=>q4k P σ op t x y
 | _,_=>q4k P σ op t x y
def q4i (P:Program) (σ:Sto) (op:BinOp) (t:TypeId) (x y:AC):Bool :=
 (match P.underlying t with | some (.slice _)=>true | _=>false) && (match op with | .eql=>true | .neq=>true | _=>false) &&
 (match x with | .pv (.sl _ n _)=>n == 0 | _=>false) && (match nilness σ y with | some true=>true | _=>false)
def qct (op:UnOp) (x:Value):Option Value :=
 match op,x with
 | .neg,.int k n=>some (.int k (k.wrap (0 - n)))
 | .not,.bool b=>some (.bool !b)
 | _,_=>none
def qcr (P:Program) (src dst:TypeId) (x:Value):Option Value :=
 match P.underlying src,x with
 | some _,.int _ n=>match P.underlying dst with
  | some (.int k)=>some (.int k (k.wrap n))
  | _=>none
 | some _,.string s=>match P.underlying dst with
  | some .string=>some (.string s)
  | _=>none
 | _,_=>none
def scalar:TV→Option Value
 | .one (.cell (.pv (.sc v)))=>some v
 | _=>none
def q11:TV→Option AC
 | .one (.cell c)=>some c
 | _=>none
def avOf:TV→Option AV
 | .one v=>some v
 | _=>none
def intOf?:TV→Option Int
 | .one (.cell (.pv (.sc (.int _ n))))=>some n
 | _=>none
def q21 (x:Option TV) (d:Nat):Option Nat :=
 match x with
 | none=>some d
 | some v=>match intOf? v with
  | some i=>if 0≤i then some i.toNat else none
  | none=>none
def q8b (P:Program) (σ:Sto) (t:TypeId) (x:TV) (lo hi mx:Option TV):Option TV :=
 match q11 x with
 | some (.pv (.sc (.string s))) =>
  if q4b P t then
   match q21 lo 0,q21 hi s.size,mx with
   | some l,some h,none=>if l≤h∧h≤s.size then some (Abs.sc (.string (s.extract l h))) else none
   | _,_,_=>none
  else none
 | some (.pv (.sl full n cs)) =>
  match elem? P t with
  | some (_,sz,_) =>
   match q21 lo 0,q21 hi n,mx with
   | some l,some h,none=>if l≤h∧h≤n then some (.one (.cell (.pv (.sl (full && h == n) (h - l) ((cs.drop (l*sz)).take ((h - l)*sz)))))) else none
   | some l,some h,some m=>match q21 (some m) 0 with
    | some m=>if hi.isSome=true∧l≤h∧h≤m∧m≤n then some (.one (.cell (.pv (.sl (h == m) (h - l) ((cs.drop (l*sz)).take ((h - l)*sz)))))) else none
    | none=>none
   | _,_,_=>none
  | none=>none
 | some (.own id ver off len) =>
  match elem? P t,live σ id ver with
  | some (_,sz,_),some (.arr _ sz' _) =>
   match q21 lo 0,q21 hi len,mx with
   | some l,some h,none=>if sz'=sz∧l≤h∧h≤len then some (.one (.cell (.own id ver (off+l*sz) (h - l)))) else none
   | _,_,_=>none
  | _,_=>none
 | _=>none
def q36 (σ:Sto):AC→Option (Nat×List PV)
 | .pv (.sc v)=>if q4a v then some (0,[]) else none
 | .pv (.sl _ n cs)=>some (n,cs)
 | .own id ver off len=>match live σ id ver with
  | some (.arr cells sz _)=>some (len,(cells.drop off).take (len*sz))
  | some (.nilarr _)=>if len=0 then some (0,[]) else none
  | _=>none
 | _=>none
def q59:List PV→Option (List UInt8)
 | []=>some []
 | .sc (.int .u8 n)::r=>if 0≤n∧n < 256 then (q59 r).map fun l=>UInt8.ofNat n.toNat::l else none
 | _=>none
def qa5 (P:Program) (σ:Sto) (src dst:TypeId) (x:TV):Option Value :=
 match P.underlying src,P.underlying dst,q11 x with
 | some (.slice e),some .string,some c=>match P.underlying e,q36 σ c with
  | some (.int .u8),some (n,ps)=>if ps.length=n then (q59 ps).map fun l=>.string ⟨l.toArray⟩ else none
  | _,_=>none
 | _,_,_=>none
def q61 (P:Program) (σ:Sto) (t:TypeId) (x y:TV):Option Eff :=
 match elem? P t,q11 x,q11 y with
 | some (e,sz,by_),some b,some s =>
  match q36 σ s,zero? P e with
  | some (n,xs),some z =>
   if xs.length=n*sz∧z.cells.length=sz∧z.cells.all AC.ok=true∧0 < sz then
    match b with
    | .pv (.sc v) =>
     if q4a v then
      (if n=0 then some (.val x) else if n*by_≤140737488355328∧n≤9223372036854775807 then some (.new (.arr xs sz 0) fun id=>.one (.cell (.own id xs.length 0 n))) else none)
     else none
    | .pv (.sl full m cs) =>
     if n=0 then some (.val x)
     else if full=true∧(m+n)*by_≤140737488355328∧m+n≤9223372036854775807∧cs.length=m*sz then some (.new (.arr (cs++xs) sz 0) fun id=>.one (.cell (.own id (cs++xs).length 0 (m+n)))) else none
    | .own id ver off len =>
     match live σ id ver with
     | some (.arr cells sz' fr) =>
      if n=0 then some (.val x)
      else if sz'=sz∧off=0∧len*sz=cells.length∧fr≤cells.length∧(len+n)*by_≤140737488355328∧len+n≤9223372036854775807 then
       some (.upd (σ.set id (some (.arr (cells++xs) sz fr))) (.one (.cell (.own id (cells++xs).length 0 (len+n)))))
      else none
     | some (.nilarr sz') =>
      if n=0 then some (.val x)
      else if sz'=sz∧len=0∧n*by_≤140737488355328∧n≤9223372036854775807 then some (.upd (σ.set id (some (.arr xs sz 0))) (.one (.cell (.own id xs.length 0 n))))
      else none
     | _=>none
    | _=>none
   else none
  | _,_=>none
 | _,_,_=>none
def q89 (P:Program) (σ:Sto) (t:TypeId) (x:TV):Option Nat :=
 match P.underlying t,q11 x with
 | some .string,some (.pv (.sc (.string s)))=>some s.size
 | some (.slice _),some (.pv (.sc v))=>if q4a v then some 0 else none
 | some (.slice _),some (.pv (.sl _ n _))=>some n
 | some (.slice _),some (.own id ver _ len)=>match live σ id ver with
  | some (.arr _ _ _)=>some len
  | some (.nilarr _)=>if len=0 then some 0 else none
  | _=>none
 | _,_=>none
def q6r (P:Program) (σ:Sto) (t:TypeId) (x:TV) (i:Int):Option TV :=
 match q11 x with
 | some (.pv (.sl _ n cs))=>match elem? P t with
  | some (_,sz,_)=>if 0≤i∧i < n then some (.one (.cell (.pv (.pp (cs.drop (i.toNat*sz)))))) else none
  | none=>none
 | some (.own id ver off len)=>match elem? P t,live σ id ver with
  | some (_,sz,_),some (.arr _ sz' _)=>if sz'=sz∧0 < sz∧0≤i∧i < len then some (.one (.cell (.ptr id ver (off+i.toNat*sz)))) else none
  | _,_=>none
 | some (.ptr id ver off)=>match array? P t,live σ id ver with
  | some (n,sz,_),some _=>if 0≤i∧i < n then some (.one (.cell (.ptr id ver (off+i.toNat*sz)))) else none
  | _,_=>none
 | some (.pv (.pp cs))=>match array? P t with
  | some (n,sz,_)=>if 0≤i∧i < n then some (.one (.cell (.pv (.pp (cs.drop (i.toNat*sz)))))) else none
  | none=>none
 | _=>none
def qa6 (P:Program) (t:TypeId) (x:TV) (i:Int):Option TV :=
 match x with
 | .one (.cell (.pv (.sc (.string s))))=>if q4b P t then (if h:0≤i∧i < s.size then some (Abs.sc (.int .u8 (s[i.toNat]'(by omega)).toNat)) else none) else none
 | .one (.agg cs)=>match array? P t with
  | some (n,sz,ag)=>if 0≤i∧i < n then (rd cs (i.toNat*sz) sz ag).map .one else none
  | none=>none
 | _=>none
def q67 (place:Nat→Option (Nat×Nat)):List AC→List (Nat×AV)→Option (List AC)
 | cs,[]=>some cs
 | cs,(i,v)::r=>match place i with
  | some (off,sz)=>if v.cells.length=sz∧v.cells.all AC.ok=true then (splice cs off v.cells).bind fun cs'=>q67 place cs' r else none
  | none=>none
def q41 (ρ:Operand→TV):List (Nat×Operand)→Option (List (Nat×AV))
 | []=>some []
 | (i,x)::r=>(avOf (ρ x)).bind fun v=>(q41 ρ r).map fun l=>(i,v)::l
def replic {α:Type} (zs:List α):Nat→List α
 | 0=>[]
 | n+1=>zs++replic zs n
def q4q (ρ:Operand→TV):List Operand→Option (List (Nat×Nat×Nat))
 | []=>some []
 | x::r=>match ρ x with
  | .one (.cell (.ptr id ver off))=>(q4q ρ r).map fun l=>(id,ver,off)::l
  | _=>none
def q2m (ρ:Operand→TV):List Operand→Option (List AV)
 | []=>some []
 | x::r=>(avOf (ρ x)).bind fun v=>(q2m ρ r).map fun l=>v::l
def q4p (l:List (Nat×Nat×Nat)):List AV:=l.map fun x=>.cell (.ptr x.1 x.2.1 x.2.2)
def optT (ρ:Operand→TV):Option Operand→Option TV
 | none=>none
 | some x=>some (ρ x)
def pvs:List AC→Option (List PV)
 | []=>some []
 | .pv p::r=>(pvs r).map fun l=>p::l
 | _=>none
def q6s (P : Program) (t : TypeId) (l c : TV) : Option Eff :=
  match elem? P t, intOf? l, intOf? c with
  | some (e, sz, by_), some l, some c => match zero? P e with
    | some z => if 0 ≤ c ∧ c.toNat * by_ ≤ 140737488355328 ∧ c ≤ 9223372036854775807 ∧ z.cells.length = sz ∧ 0 < sz ∧ z.cells.all AC.ok = true then
        (if l = 0 then some (.new (.arr [] sz 0) fun id => .one (.cell (.own id 0 0 0)))
         else if l = c then (pvs z.cells).map fun zs => .new (.arr (replic zs c.toNat) sz 0) fun id => .one (.cell (.own id (replic zs c.toNat).length 0 c.toNat)) else none)
      else none
    | none => none
  | _, _, _ => none
def qdt (P:Program) (t:TypeId):AC→AC→Option Bool
 | .pv (.sc (.int k a)),.pv (.sc (.int k' b))=>match P.underlying t with
  | some (.int _)=>if k=k' then some (decide (a=b)) else none
  | _=>none
 | .pv (.sc (.string a)),.pv (.sc (.string b))=>match P.underlying t with
  | some .string=>some (decide (a=b))
  | _=>none
 | .pv (.sc (.bool a)),.pv (.sc (.bool b))=>match P.underlying t with
  | some .bool=>some (a == b)
  | _=>none
 | _,_=>none
def eqFs (P:Program) (cs ds:List AC):List Field→Option Bool
 | []=>some true
 | f::r =>
  if f.name ≠ "_" then
   match isAgg? P f.type,cs[f.offset]?,ds[f.offset]? with
   | some false,some a,some b=>(qdt P f.type a b).bind fun q=>(eqFs P cs ds r).map fun p=>q && p
   | _,_,_=>none
  else none
def qcs (P:Program) (op:BinOp) (t:TypeId):TV→TV→Option Value
 | .one (.agg cs),.one (.agg ds)=>match P.underlying t with
  | some (.struct fs) =>
   if P.stoodInHeld t=false∧P.eqGuardType P.depth t=false then
    match op with
    | .eql=>(eqFs P cs ds fs.toList).map fun b=>.bool b
    | .neq=>(eqFs P cs ds fs.toList).map fun b=>.bool (!b)
    | _=>none
   else none
  | _=>none
 | _,_=>none
def q8a (mx:Bool):TV→TV→Option Eff
 | .one (.cell (.pv (.sc (.int k a)))),.one (.cell (.pv (.sc (.int _ b))))=>some (.val (Abs.sc (.int k (if mx=true then (if b > a then b else a) else (if b < a then b else a)))))
 | _,_=>none
def aop (P:Program) (ρ:Operand→TV) (σ:Sto) (o:Op):Option Eff :=
 match o with
 | .move x=>some (.val (ρ x))
 | .assign x=>some (.val (ρ x))
 | .pick c a b=>match scalar (ρ c) with
  | some (.bool t)=>some (.val (if t then ρ a else ρ b))
  | _=>none
 | .alloc t=>(zero? P t).bind fun z=>if z.cells.all AC.ok then some (.new (.box z.cells) fun id=>.one (.cell (.ptr id 0 0))) else none
 | .box _ x=>(avOf (ρ x)).bind fun v=>if v.cells.all AC.ok then some (.new (.box v.cells) fun id=>.one (.cell (.ptr id 0 0))) else none
 | .build t parts=>match zero? P t,q41 ρ parts.toList,place? P t with
  | some (.agg z),some l,some pl=>(q67 pl z l).map fun cs=>.val (.one (.agg cs))
  | _,_,_=>none
 | .buildSlice t len parts=>match elem? P t,q41 ρ parts.toList with
  | some (e,sz,_),some l=>if len=0∧l.isEmpty=true then some (.val (.one (.cell (.pv (.sl true 0 []))))) else match zero? P e with
   | some z=>if len*sz≤16777216∧0 < len*sz∧z.cells.length=sz then
     (q67 (fun i=>some (i*sz,sz)) (replic z.cells len) l).bind fun cs=>(frzL σ cs).map fun ps =>
      if cs.any AC.owns then .upd (q2u σ cs) (.one (.cell (.pv (.sl true len ps)))) else .val (.one (.cell (.pv (.sl true len ps))))
    else none
   | none=>none
  | _,_=>none
 | .load t a=>match q11 (ρ a),size? P t,isAgg? P t with
  | some (.ptr id ver off),some n,some ag=>match live σ id ver with
   | some ob=>(rd ob.cells off n ag).map fun v=>.val (.one v)
   | none=>none
  | some (.pv (.pp cs)),some n,some ag=>(rd (cs.map .pv) 0 n ag).map fun v=>.val (.one v)
  | _,_,_=>none
 | .store t a x=>match q11 (ρ a),avOf (ρ x),size? P t with
  | some (.ptr id ver off),some v,some n=>match live σ id ver with
   | some ob=>if v.cells.length=n then (pokes σ ob off v.cells).map fun ob'=>.upd (σ.set id (some ob')) qw else none
   | none=>none
  | _,_,_=>none
 | .nilCheck x=>match q11 (ρ x) with
  | some (.ptr id ver off)=>match live σ id ver with
   | some _=>some (.val (.one (.cell (.ptr id ver off))))
   | none=>none
  | some (.pv (.pp cs))=>some (.val (.one (.cell (.pv (.pp cs)))))
  | some (.fn f caps)=>some (.val (.one (.cell (.fn f caps))))
  | some (.pv (.sc (.func (.func f) a b)))=>some (.val (Abs.sc (.func (.func f) a b)))
  | _=>none
 | .binOp op t x y _=>match q11 (ρ x),q11 (ρ y) with
  | some a,some b=>if q4i P σ op t a b then some (.val (.one (.cell .ubool))) else (q56 P σ op t a b).map fun v=>.val (Abs.sc v)
  | _,_=>(qcs P op t (ρ x) (ρ y)).map fun v=>.val (Abs.sc v)
 | .unOp op _ x=>(scalar (ρ x)).bind fun v=>(qct op v).map fun v=>.val (Abs.sc v)
 | .convert src dst x=>match scalar (ρ x) with
  | some v=>(qcr P src dst v).map fun v=>.val (Abs.sc v)
  | none=>(qa5 P σ src dst (ρ x)).map fun v=>.val (Abs.sc v)
 | .makeInterface t x=>match scalar (ρ x),qjy P t with
  | some v,some false=>some (.val (Abs.sc (.iface t v)))
  | _,_=>none
 | .makeFunc (.func f) first captured =>
  if first.toList.isEmpty then
   (if captured.toList.isEmpty then some (.val (Abs.sc (.func (.func f) #[] #[]))) else (q4q ρ captured.toList).map fun l=>.val (.one (.cell (.fn f l))))
  else none
 | .makeSlice t l c=>q6s P t (ρ l) (ρ c)
 | .slice t x lo hi mx=>(q8b P σ t (ρ x) (optT ρ lo) (optT ρ hi) (optT ρ mx)).map .val
 | .fieldAddr s x f=>match q11 (ρ x),field? P s f with
  | some (.ptr id ver off),some (fo,n,_)=>match live σ id ver with
   | some _=>if 0 < n then some (.val (.one (.cell (.ptr id ver (off+fo))))) else none
   | none=>none
  | some (.pv (.pp cs)),some (fo,n,_)=>if 0 < n then some (.val (.one (.cell (.pv (.pp (cs.drop fo)))))) else none
  | _,_=>none
 | .field s x f=>match ρ x,field? P s f with
  | .one (.agg cs),some (fo,n,ag)=>(rd cs fo n ag).map fun v=>.val (.one v)
  | _,_=>none
 | .indexAddr t x i=>(intOf? (ρ i)).bind fun n=>(q6r P σ t (ρ x) n).map .val
 | .index t x i=>(intOf? (ρ i)).bind fun n=>(qa6 P t (ρ x) n).map .val
 | .extract t i=>match ρ t with
  | .tup vs=>(vs[i]?).map fun v=>.val (.one v)
  | _=>none
 | .makeMap t r=>match mapT? P t,r with
  | some e,none=>(isAgg? P e).map fun ag=>.upd (σ++[some (.mp ag [])]) (.one (.cell (.mapr σ.length)))
  | some e,some h=>match intOf? (ρ h),isAgg? P e with
   | some _,some ag=>some (.upd (σ++[some (.mp ag [])]) (.one (.cell (.mapr σ.length))))
   | _,_=>none
  | _,_=>none
 | .lookup t m k ok=>match mapT? P t,q11 (ρ m),scalar (ρ k) with
  | some e,some (.mapr id),some (.string s)=>match σ[id]?,zero? P e with
   | some (some (.mp ag es)),some z=>(frzL [] z.cells).bind fun zs=>match mval ag (q2j es s zs) with
    | some v=>match z,ag with
     | .agg _,true=>some (.val (if ok then .tup [v,.cell (.pv (.sc (.bool (mhas es s))))] else .one v))
     | .cell _,false=>some (.val (if ok then .tup [v,.cell (.pv (.sc (.bool (mhas es s))))] else .one v))
     | _,_=>none
    | none=>none
   | _,_=>none
  | _,_,_=>none
 | .mapUpdate t m k x=>match mapT? P t,q11 (ρ m),scalar (ρ k),avOf (ρ x) with
  | some e,some (.mapr id),some (.string s),some v=>match σ[id]?,frzL σ v.cells with
   | some (some (.mp ag es)),some ps=>match v,ag with
    | .agg _,true=>if v.cells.any AC.owns=false then some (.upd (σ.set id (some (.mp ag (mput es s ps)))) qw) else none
    | .cell _,false=>if v.cells.any AC.owns=false then some (.upd (σ.set id (some (.mp ag (mput es s ps)))) qw) else none
    | _,_=>none
   | _,_=>none
  | _,_,_,_=>none
 | .call { callee:=.builtin .len,args,argTypes }=>match args.toList,argTypes.toList with
  | [x],[t]=>(q89 P σ t (ρ x)).map fun (n:Nat)=>Eff.val (Abs.sc (.int .i64 (n:Int)))
  | _,_=>none
 | .call { callee:=.builtin .append,args,argTypes }=>match args.toList,argTypes.toList with
  | [x,y],[t,u]=>if t=u then q61 P σ t (ρ x) (ρ y) else none
  | _,_=>none
 | .call { callee:=.builtin .max,args,argTypes:=_ }=>match args.toList with
  | [x,y]=>q8a true (ρ x) (ρ y)
  | _=>none
 | .call { callee:=.builtin .min,args,argTypes:=_ }=>match args.toList with
  | [x,y]=>q8a false (ρ x) (ρ y)
  | _=>none
 | _=>none
end Abs
end Go.Proofs.YtpidpioifnnllaaGreatDoor
namespace Go.Proofs.YtpidpioifnnllaaGreatDoor
namespace Abs
open Go.RowKit
def All2 {α β:Type} (R:α→β→Prop):List α→List β→Prop
 | [],[]=>True
 | a::l,b::m=>R a b∧All2 R l m
 | _,_=>False
theorem All2.length {α β:Type} {R:α→β→Prop}:∀ {l:List α} {m:List β},All2 R l m→l.length=m.length
 | [],[],_=>rfl
 | _::_,_::_,h=>by simp[All2.length h.2]
 | [],_::_,h=>h.elim
 | _::_,[],h=>h.elim
theorem All2.imp {α β:Type} {R S:α→β→Prop} (hi:∀ a b,R a b→S a b):∀ {l:List α} {m:List β},All2 R l m→All2 S l m
 | [],[],_=>trivial
 | _::_,_::_,h=>⟨hi _ _ h.1,All2.imp hi h.2⟩
 | [],_::_,h=>h.elim
 | _::_,[],h=>h.elim
theorem All2.get {α β:Type} {R:α→β→Prop}:∀ {l:List α} {m:List β},All2 R l m→∀ (i:Nat) (a:α),l[i]?=some a→∃ b,m[i]?=some b∧R a b
 | [],[],_,i,a,h=>by simp at h
 | x::l,y::m,h,0,a,e=>by simp at e; subst e; exact ⟨y,rfl,h.1⟩
 | x::l,y::m,h,i+1,a,e=>by simpa using All2.get h.2 i a (by simpa using e)
 | [],_::_,h,_,_,_=>h.elim
 | _::_,[],h,_,_,_=>h.elim
theorem All2.of_get {α β:Type} {R:α→β→Prop}:∀ {l:List α} {m:List β},l.length=m.length→(∀ (i:Nat) (a:α) (b:β),l[i]?=some a→m[i]?=some b→R a b)→All2 R l m
 | [],[],_,_=>trivial
 | x::l,y::m,hl,h=>⟨h 0 x y rfl rfl,All2.of_get (by simpa using hl) fun i a b ha hb=>h (i+1) a b (by simpa using ha) (by simpa using hb)⟩
 | [],_::_,hl,_=>by simp at hl
 | _::_,[],hl,_=>by simp at hl
theorem All2.append {α β:Type} {R:α→β→Prop}:∀ {l:List α} {m:List β} {l':List α} {m':List β},All2 R l m→All2 R l' m'→All2 R (l++l') (m++m')
 | [],[],_,_,_,h=>h
 | _::_,_::_,_,_,h,k=>⟨h.1,All2.append h.2 k⟩
 | [],_::_,_,_,h,_=>h.elim
 | _::_,[],_,_,h,_=>h.elim
theorem All2.drop {α β:Type} {R:α→β→Prop}:∀ (n:Nat) {l:List α} {m:List β},All2 R l m→All2 R (l.drop n) (m.drop n)
 | 0,_,_,h=>h
 | _+1,[],[],h=>h
 | n+1,_::_,_::_,h=>All2.drop n h.2
 | _+1,[],_::_,h=>h.elim
 | _+1,_::_,[],h=>h.elim
theorem All2.take {α β:Type} {R:α→β→Prop}:∀ (n:Nat) {l:List α} {m:List β},All2 R l m→All2 R (l.take n) (m.take n)
 | 0,_,_,_=>by simp[All2]
 | _+1,[],[],h=>h
 | n+1,_::_,_::_,h=>⟨h.1,All2.take n h.2⟩
 | _+1,[],_::_,h=>h.elim
 | _+1,_::_,[],h=>h.elim
theorem All2.mem {α β:Type} {R:α→β→Prop}:∀ {l:List α} {m:List β},All2 R l m→∀ b ∈ m,∃ a ∈ l,R a b
 | [],[],_,b,h=>by simp at h
 | x::l,y::m,h,b,hb=>by
  rcases List.mem_cons.1 hb with rfl | hb
  ·exact ⟨x,by simp,h.1⟩
  ·obtain ⟨a,ha,r⟩:=All2.mem h.2 b hb
   exact ⟨a,by simp[ha],r⟩
 | [],_::_,h,_,_=>h.elim
 | _::_,[],h,_,_=>h.elim
mutual
def PRep (prot:Nat→Nat→Prop) (w:World):PV→Value→Prop
 | .sc v,u=>u=v∧v.oneCell'=true
 | .sl full n cs,u=>(u=.slice none 0 0∧n=0∧cs=[])∨(∃ b off cap,u=.slice (some ⟨b,off,none⟩) n cap∧n≤cap∧(full=true→cap=n)∧qh prot w b off cs)∨(n=0∧cs=[]∧∃ a cap,u=.slice (some a) 0 cap∧(full=true→cap=0))
 | .pp cs,u=>∃ b off,u=.pointer (some ⟨b,off,none⟩)∧qh prot w b off cs
def qh (prot:Nat→Nat→Prop) (w:World) (b:Nat):Nat→List PV→Prop
 | _,[]=>True
 | off,c::r=>(∃ u,w.cell? ⟨b,off,none⟩=some u∧prot b off∧PRep prot w c u)∧qh prot w b (off+1) r
end
mutual
theorem PRep.mono {prot prot':Nat→Nat→Prop} {w w':World} (h:∀ b o,prot b o→prot' b o∧w'.cell? ⟨b,o,none⟩=w.cell? ⟨b,o,none⟩) :
  ∀ {x:PV} {u:Value},PRep prot w x u→PRep prot' w' x u
 | .sc _,_,e=>e
 | .sl full n cs,u,e=>by
  unfold PRep at e ⊢
  rcases e with e | ⟨b,off,cap,e1,e2,e3,e4⟩ | e
  ·exact .inl e
  ·exact .inr (.inl ⟨b,off,cap,e1,e2,e3,qh.mono h e4⟩)
  ·exact .inr (.inr e)
 | .pp cs,u,e=>by
  unfold PRep at e ⊢
  obtain ⟨b,off,e1,e2⟩:=e
  exact ⟨b,off,e1,qh.mono h e2⟩
theorem qh.mono {prot prot':Nat→Nat→Prop} {w w':World} (h:∀ b o,prot b o→prot' b o∧w'.cell? ⟨b,o,none⟩=w.cell? ⟨b,o,none⟩) {b:Nat} :
  ∀ {off:Nat} {cs:List PV},qh prot w b off cs→qh prot' w' b off cs
 | _,[],_=>by unfold qh; trivial
 | off,c::r,e=>by
  unfold qh at e ⊢
  obtain ⟨⟨u,e1,e2,e3⟩,e4⟩:=e
  exact ⟨⟨u,by rw[(h b off e2).2]; exact e1,(h b off e2).1,PRep.mono h e3⟩,qh.mono h e4⟩
end
theorem qh.drop {prot:Nat→Nat→Prop} {w:World} {b:Nat}:∀ (k:Nat) {off:Nat} {cs:List PV},qh prot w b off cs→qh prot w b (off+k) (cs.drop k)
 | 0,_,_,h=>h
 | k+1,off,[],_=>by unfold qh; simp
 | k+1,off,c::r,h=>by
  unfold qh at h
  rw[List.drop_succ_cons,show off+(k+1)=off+1+k by omega]
  exact qh.drop k h.2
theorem qh.take {prot:Nat→Nat→Prop} {w:World} {b:Nat}:∀ (k:Nat) {off:Nat} {cs:List PV},qh prot w b off cs→qh prot w b off (cs.take k)
 | 0,_,_,_=>by simp[qh]
 | k+1,off,[],h=>by simpa using h
 | k+1,off,c::r,h=>by
  unfold qh at h
  rw[List.take_succ_cons]
  unfold qh
  exact ⟨h.1,qh.take k h.2⟩
theorem qh.get {prot:Nat→Nat→Prop} {w:World} {b:Nat}:∀ {off:Nat} {cs:List PV},qh prot w b off cs→∀ i c,cs[i]?=some c→∃ u,w.cell? ⟨b,off+i,none⟩=some u∧prot b (off+i)∧PRep prot w c u
 | _,[],_,i,c,h=>by simp at h
 | off,x::r,h,0,c,e=>by unfold qh at h; simp at e; subst e; exact h.1
 | off,x::r,h,i+1,c,e=>by
  unfold qh at h
  have:=qh.get h.2 i c (by simpa using e)
  rwa [show off+1+i=off+(i+1) by omega]at this
theorem qh.of_get {prot:Nat→Nat→Prop} {w:World} {b:Nat}:∀ {off:Nat} {cs:List PV},(∀ i c,cs[i]?=some c→∃ u,w.cell? ⟨b,off+i,none⟩=some u∧prot b (off+i)∧PRep prot w c u)→qh prot w b off cs
 | _,[],_=>by unfold qh; trivial
 | off,x::r,h=>by
  unfold qh
  exact ⟨h 0 x rfl,qh.of_get fun i c e=>by
   have:=h (i+1) c (by simpa using e)
   rwa [show off+(i+1)=off+1+i by omega]at this⟩
structure Cx where
 B0:Nat
 hs:Nat
 old:Nat→Nat→Prop
 loc:Nat→Option (Nat×Nat)
 pend:Nat→Prop
 σ:Sto
 mloc:Nat→Option Nat:=fun _=>none
 low:Nat→Prop:=fun _=>False
structure BelowO (B:Nat) (L:Nat→Prop) (w w':World):Prop where
 os:w'.os=w.os
 tape:w'.tape=w.tape
 output:w'.output=w.output
 size:w.heap.size≤w'.heap.size
 block:∀ k,k < B→¬ L k→w'.heap[k]?=w.heap[k]?
theorem Below.o {B:Nat} {L:Nat→Prop} {w w':World} (h:Below B w w'):BelowO B L w w':=⟨h.os,h.tape,h.output,h.size,fun k hk _=>h.block k hk⟩
theorem BelowO.refl (B:Nat) (L:Nat→Prop) (w:World):BelowO B L w w:=⟨rfl,rfl,rfl,Nat.le_refl _,fun _ _ _=>rfl⟩
theorem BelowO.trans {B:Nat} {L:Nat→Prop} {a b c:World} (h:BelowO B L a b) (k:BelowO B L b c):BelowO B L a c :=
 ⟨k.os.trans h.os,k.tape.trans h.tape,k.output.trans h.output,Nat.le_trans h.size k.size,fun i hi hl=>(k.block i hi hl).trans (h.block i hi hl)⟩
theorem BelowO.full {B:Nat} {L:Nat→Prop} {w w':World} (h:BelowO B L w w') {C:Nat} (hC:C≤B) (hl:∀ k,L k→C≤k):Below C w w' :=
 ⟨h.os,h.tape,h.output,h.size,fun k hk=>h.block k (by omega) fun q=>by have:=hl k q; omega⟩
def AObj.kind:AObj→Option (Nat×Bool)
 | .box _=>none
 | .arr _ sz _=>some (sz,false)
 | .nilarr sz=>some (sz+1,true)
 | .mp _ _=>some (0,true)
def Cx.In (X:Cx) (ob:AObj) (b:Nat):Prop:=X.B0≤b∨(ob.two=true∧X.low b)
def AObj.fr:AObj→Nat
 | .box _=>0
 | .arr _ _ fr=>fr
 | .nilarr _=>0
 | .mp _ _=>0
def AObj.bare:AObj→Bool
 | .nilarr _=>true
 | .mp _ _=>true
 | _=>false
def Cx.prot (X:Cx) (b o:Nat):Prop :=
 (b < X.B0∧X.old b o)∨(X.B0≤b∧b < X.hs∧∀ id ob l,X.σ[id]?=some (some ob)→¬ X.pend id→X.loc id=some l→l.1=b→o < ob.fr)
def q2e (X:Cx) (id ver off:Nat) (u:Value):Prop :=
 u.oneCell'=true∧¬ X.pend id∧id < X.σ.length∧∀ ob,X.σ[id]?=some (some ob)→ver≤ob.ver∧(ver=ob.ver→∃ l,X.loc id=some l∧u=.pointer (some ⟨l.1,off,none⟩))
def q3t (X:Cx) (id ver off len:Nat) (u:Value):Prop :=
 u.oneCell'=true∧¬ X.pend id∧id < X.σ.length∧∀ ob,X.σ[id]?=some (some ob)→ver≤ob.ver∧(ver=ob.ver →
  match ob with
  | .arr cells sz _=>∃ l,X.loc id=some l∧off+len*sz≤cells.length∧∃ a cap,u=.slice (some a) len cap∧len≤cap∧a.spot=none∧(cap≠0→a.block=l.1∧a.off=off∧off+cap*sz≤l.2)
  | .nilarr _=>u=.slice none 0 0∧len=0
  | .mp _ _=>False
  | .box _=>False)
def q5y (X:Cx) (id:Nat) (u:Value):Prop:=¬ X.pend id∧id < X.σ.length∧∃ r,X.mloc id=some r∧u=.map (some r)
def CRep (X:Cx) (w:World):AC→Value→Prop
 | .any,_=>True
 | .undef,u=>u=undef
 | .ubool,u=>∃ b,u=.bool b
 | .pv x,u=>PRep X.prot w x u
 | .own id ver off len,u=>q3t X id ver off len u
 | .ptr id ver off,u=>q2e X id ver off u
 | .fn f caps,u=>∃ us,u=.func (.func f) #[] us∧All2 (fun (c:Nat×Nat×Nat) u=>q2e X c.1 c.2.1 c.2.2 u) caps us.toList
 | .mapr id,u=>q5y X id u
def q9 (X:Cx) (w:World):AV→Value→Prop
 | .cell c,u=>CRep X w c u
 | .agg cs,u=>∃ us,u=.agg us∧All2 (CRep X w) cs us.toList
def TRep (X:Cx) (w:World):TV→Value→Prop
 | .one v,u=>q9 X w v u
 | .tup vs,u=>∃ us,u=.tuple us∧All2 (q9 X w) vs us.toList
 | .dead _,_=>False
def q2l (X:Cx) (w:World) (ob:AObj) (cs:Array Value):Prop:=∀ (i:Nat) (c:AC),ob.cells[i]?=some c→∃ u,cs[i]?=some u∧CRep X w c u
def MRep (X:Cx) (w:World) (ag:Bool) (es:List (ByteArray×List PV)) (arr:List MapEntry):Prop :=
 All2 (fun (c:ByteArray×List PV) (e:MapEntry)=>e.key=.string c.1∧∃ v,mval ag c.2=some v∧q9 X w v e.val) es arr
def qa2 (X:Cx) (w:World):Prop :=
 (∀ id ag es,X.σ[id]?=some (some (.mp ag es))→¬ X.pend id→∃ r arr k,X.mloc id=some r∧X.B0≤r∧w.heap[r]?=some (.map arr k)∧MRep X w ag es arr.toList) ∧
 (∀ id id' ag ag' es es' r,X.σ[id]?=some (some (.mp ag es))→X.σ[id']?=some (some (.mp ag' es'))→¬ X.pend id→¬ X.pend id'→X.mloc id=some r→X.mloc id'=some r→id=id')
variable (E : World → Prop) (E0 : Nat)
structure Inv (X:Cx) (w:World):Prop where
 hs:X.hs=w.heap.size
 b0:X.B0≤w.heap.size
 e0:E0≤X.B0
 env:E w
 ob:∀ id ob,X.σ[id]?=some (some ob)→¬ X.pend id→ob.bare=false→∃ l,X.loc id=some l∧X.In ob l.1∧∃ cs T,w.heap[l.1]?=some (.cells cs T (0,0))∧cs.size=l.2∧q2l X w ob cs
 inj:∀ id id' ob ob' l l',X.σ[id]?=some (some ob)→X.σ[id']?=some (some ob')→¬ X.pend id→¬ X.pend id'→X.loc id=some l→X.loc id'=some l'→l.1=l'.1→id=id'
 glob:∀ b o,b < E0→X.old b o
 bare:∀ id ob,X.σ[id]?=some (some ob)→¬ X.pend id→ob.bare=true→X.loc id=none
 maps:qa2 X w
 low:∀ k,X.low k→E0≤k∧k < X.B0∧∀ o,¬ X.old k o
structure Ext (X:Cx) (w:World) (X':Cx) (w':World):Prop where
 b0:X'.B0=X.B0
 old:X'.old=X.old
 below:BelowO X.B0 X.low w w'
 len:X.σ.length≤X'.σ.length
 prot:∀ b o,X.prot b o→X'.prot b o∧w'.cell? ⟨b,o,none⟩=w.cell? ⟨b,o,none⟩
 pend:∀ id,id < X.σ.length→¬ X.pend id→¬ X'.pend id
 ids:∀ id ob',id < X.σ.length→¬ X.pend id→X'.σ[id]?=some (some ob')→∃ ob,X.σ[id]?=some (some ob)∧ob.ver≤ob'.ver∧(ob.ver=ob'.ver→X'.loc id=X.loc id∧ob'.kind=ob.kind∧ob.cells.length=ob'.cells.length)
 mloc:∀ id r,id < X.σ.length→¬ X.pend id→X.mloc id=some r→X'.mloc id=some r
 low:X'.low=X.low
theorem q2e.ext {X X':Cx} {w w':World} (h:Ext X w X' w') {id ver off:Nat} {u:Value} (k:q2e X id ver off u):q2e X' id ver off u:=by
 obtain ⟨k0,k1,k2,k3⟩:=k
 refine ⟨k0,h.pend id k2 k1,Nat.lt_of_lt_of_le k2 h.len,fun ob' e'=>?_⟩
 obtain ⟨ob,e,hv,hs⟩:=h.ids id ob' k2 k1 e'
 obtain ⟨k4,k5⟩:=k3 ob e
 refine ⟨by omega,fun hver=>?_⟩
 obtain ⟨l,hl,hu⟩:=k5 (by omega)
 exact ⟨l,by rw[(hs (by omega)).1]; exact hl,hu⟩
theorem q3t.ext {X X':Cx} {w w':World} (h:Ext X w X' w') {id ver off len:Nat} {u:Value} (k:q3t X id ver off len u):q3t X' id ver off len u:=by
 obtain ⟨k0,k1,k2,k3⟩:=k
 refine ⟨k0,h.pend id k2 k1,Nat.lt_of_lt_of_le k2 h.len,fun ob' e'=>?_⟩
 obtain ⟨ob,e,hv,hs⟩:=h.ids id ob' k2 k1 e'
 obtain ⟨k4,k5⟩:=k3 ob e
 refine ⟨by omega,fun hver=>?_⟩
 have hu:=k5 (by omega)
 obtain ⟨h1,h2,h3⟩:=hs (by omega)
 cases ob with
 | box _=>exact hu.elim
 | arr cells sz fr =>
  cases ob' with
  | box _=>simp[AObj.kind]at h2
  | nilarr _=>simp[AObj.kind]at h2
  | mp _ _=>simp[AObj.kind]at h2
  | arr cells' sz' fr' =>
   simp[AObj.kind]at h2
   subst h2
   simp[AObj.cells]at h3
   obtain ⟨l,hl,g1,g2⟩:=hu
   exact ⟨l,by rw[h1]; exact hl,by omega,g2⟩
 | nilarr sz =>
  cases ob' with
  | box _=>simp[AObj.kind]at h2
  | arr _ _ _=>simp[AObj.kind]at h2
  | mp _ _=>simp[AObj.kind]at h2
  | nilarr _=>exact hu
 | mp _ _=>exact hu.elim
theorem q5y.ext {X X':Cx} {w w':World} (h:Ext X w X' w') {id:Nat} {u:Value} (k:q5y X id u):q5y X' id u:=by
 obtain ⟨k1,k2,r,k3,k4⟩:=k
 exact ⟨h.pend id k2 k1,Nat.lt_of_lt_of_le k2 h.len,r,h.mloc id r k2 k1 k3,k4⟩
theorem CRep.ext {X X':Cx} {w w':World} (h:Ext X w X' w') {c:AC} {u:Value} (k:CRep X w c u):CRep X' w' c u:=by
 cases c with
 | any=>trivial
 | undef=>exact k
 | ubool=>exact k
 | pv x=>exact PRep.mono h.prot k
 | own id ver off len=>exact q3t.ext h k
 | ptr id ver off=>exact q2e.ext h k
 | fn f caps =>
  obtain ⟨us,e,ha⟩:=k
  exact ⟨us,e,ha.imp fun _ _=>q2e.ext h⟩
 | mapr id=>exact q5y.ext h k
theorem q9.ext {X X':Cx} {w w':World} (h:Ext X w X' w') {v:AV} {u:Value} (k:q9 X w v u):q9 X' w' v u:=by
 cases v with
 | cell c=>exact CRep.ext h k
 | agg cs=>obtain ⟨us,e,ha⟩:=k; exact ⟨us,e,ha.imp fun _ _=>CRep.ext h⟩
theorem TRep.ext {X X':Cx} {w w':World} (h:Ext X w X' w') {v:TV} {u:Value} (k:TRep X w v u):TRep X' w' v u:=by
 cases v with
 | one v=>exact q9.ext h k
 | tup vs=>obtain ⟨us,e,ha⟩:=k; exact ⟨us,e,ha.imp fun _ _=>q9.ext h⟩
 | dead v=>exact k.elim
theorem Ext.trans {X X1 X2:Cx} {w w1 w2:World} (h:Ext X w X1 w1) (k:Ext X1 w1 X2 w2):Ext X w X2 w2:=by
 refine ⟨k.b0.trans h.b0,k.old.trans h.old,h.below.trans (h.b0 ▸ h.low ▸ k.below),Nat.le_trans h.len k.len,fun b o hp=>?_,fun id hl hp=>?_,fun id ob' hl hp e=>?_,fun id r hl hp e=>k.mloc id r (Nat.lt_of_lt_of_le hl h.len) (h.pend id hl hp) (h.mloc id r hl hp e),k.low.trans h.low⟩
 ·obtain ⟨h1,h2⟩:=h.prot b o hp
  obtain ⟨k1,k2⟩:=k.prot b o h1
  exact ⟨k1,k2.trans h2⟩
 ·exact k.pend id (Nat.lt_of_lt_of_le hl h.len) (h.pend id hl hp)
 ·obtain ⟨o1,e1,v1,s1⟩:=k.ids id ob' (Nat.lt_of_lt_of_le hl h.len) (h.pend id hl hp) e
  obtain ⟨o0,e0,v0,s0⟩:=h.ids id o1 hl hp e1
  refine ⟨o0,e0,by omega,fun hv=>?_⟩
  obtain ⟨a1,a2,a3⟩:=s1 (by omega)
  obtain ⟨b1,b2,b3⟩:=s0 (by omega)
  exact ⟨a1.trans b1,a2.trans b2,b3.trans a3⟩
theorem Ext.refl (X:Cx) (w:World):Ext X w X w :=
 ⟨rfl,rfl,BelowO.refl _ _ _,Nat.le_refl _,fun _ _ h=>⟨h,rfl⟩,fun _ _ h=>h,fun _ ob _ _ e=>⟨ob,e,Nat.le_refl _,fun _=>⟨rfl,rfl,rfl⟩⟩,fun _ _ _ _ h=>h,rfl⟩
theorem qa2.carry {X X':Cx} {w w':World} (h:qa2 X w) (hx:Ext X w X' w') (hh:∀ r arr k,X.B0≤r→w.heap[r]?=some (.map arr k)→w'.heap[r]?=some (.map arr k))
  (hσ:∀ id ag es,X'.σ[id]?=some (some (.mp ag es))→¬ X'.pend id→X.σ[id]?=some (some (.mp ag es))∧¬ X.pend id):qa2 X' w':=by
 have hlt:∀ {id:Nat} {o:Option AObj},X.σ[id]?=some o→id < X.σ.length:=fun e=>(List.getElem?_eq_some_iff.1 e).1
 refine ⟨fun id ag es e hp=>?_,fun id id' ag ag' es es' r e e' hp hp' hr hr'=>?_⟩
 ·obtain ⟨e1,e2⟩:=hσ id ag es e hp
  obtain ⟨r,arr,k,h1,h2,h3,h4⟩:=h.1 id ag es e1 e2
  exact ⟨r,arr,k,hx.mloc id r (hlt e1) e2 h1,by rw[hx.b0]; exact h2,hh r arr k h2 h3,h4.imp fun _ _ ⟨q1,v,q2,q3⟩=>⟨q1,v,q2,q9.ext hx q3⟩⟩
 ·obtain ⟨e1,e2⟩:=hσ id ag es e hp
  obtain ⟨e1',e2'⟩:=hσ id' ag' es' e' hp'
  obtain ⟨r1,_,_,h1,_⟩:=h.1 id ag es e1 e2
  obtain ⟨r2,_,_,h2,_⟩:=h.1 id' ag' es' e1' e2'
  have g1:=hx.mloc id r1 (hlt e1) e2 h1
  have g2:=hx.mloc id' r2 (hlt e1') e2' h2
  rw[hr]at g1; rw[hr']at g2
  obtain rfl:r=r1:=by simpa using g1
  obtain rfl:r=r2:=by simpa using g2
  exact h.2 id id' ag ag' es es' r e1 e1' e2 e2' h1 h2
def Ok (P:Program) (f:FuncId) (args:List AV) (σ:Sto) (r:TV) (σ':Sto):Prop :=
 ∀ (X:Cx) (w:World) (vs:List Value),X.σ=σ→(∀ id,¬ X.pend id)→Inv E E0 X w→All2 (q9 X w) args vs →
  Calls P f vs.toArray w fun e w'=>∃ X' v,e=.returned v∧X'.σ=σ'∧(∀ id,¬ X'.pend id)∧Inv E E0 X' w'∧Ext X w X' w'∧TRep X' w' r v
def Cx.bare (B hs:Nat) (old:Nat→Nat→Prop):Cx:={ B0:=B,hs:=hs,old:=old,loc:=fun _=>none,pend:=fun _=>False,σ:=[] }
def Pure (P:Program) (f:FuncId) (args:List AV) (r:TV):Prop :=
 ∀ (old:Nat→Nat→Prop) (w:World) (vs:List Value),E w→E0≤w.heap.size→(∀ b o,b < E0→old b o)→All2 (q9 (Cx.bare w.heap.size w.heap.size old) w) args vs →
  Calls P f vs.toArray w fun e w'=>∃ v,e=.returned v∧Below w.heap.size w w'∧E w'∧TRep (Cx.bare w.heap.size w'.heap.size old) w' r v
end Abs
end Go.Proofs.YtpidpioifnnllaaGreatDoor
namespace Go.Proofs.YtpidpioifnnllaaGreatDoor
namespace Abs
open Go.RowKit
variable {E : World → Prop} {E0 : Nat}
theorem Inv.not_bare {X:Cx} {w:World} (hi:Inv E E0 X w) {id:Nat} {ob:AObj} (ho:X.σ[id]?=some (some ob)) (hp:¬ X.pend id) {l:Nat×Nat} (hl:X.loc id=some l):ob.bare=false:=by
 cases hb:ob.bare with
 | false=>rfl
 | true=>rw[hi.bare id ob ho hp hb]at hl; cases hl
theorem q35 {X:Cx} {w:World} (hi:Inv E E0 X w) {b o:Nat} (h:X.prot b o):b < w.heap.size:=by
 rcases h with ⟨h,_⟩ | ⟨_,h,_⟩
 ·have:=hi.b0; omega
 ·rw[← hi.hs]; exact h
theorem Inv.in_e0 {X:Cx} {w:World} (hi:Inv E E0 X w) {ob:AObj} {b:Nat} (h:X.In ob b):E0≤b:=by
 rcases h with h | h
 ·exact Nat.le_trans hi.e0 h
 ·exact (hi.low b h.2).1
theorem Inv.in_ne {X:Cx} {w:World} (hi:Inv E E0 X w) {ob:AObj} {b o k:Nat} (h:X.In ob k) (ho:b < X.B0∧X.old b o):b≠k:=by
 rintro rfl
 rcases h with h | h
 ·omega
 ·exact (hi.low b h.2).2.2 o ho.2
theorem AObj.two_of {ob ob':AObj} (hk:ob'.kind=ob.kind) (hl:ob'.cells.length=ob.cells.length) (h:ob.two=true):ob'.two=true:=by
 cases ob with
 | box cs =>
  cases ob' with
  | box cs' =>
   match cs,h with
   | [_,_],_ =>
    match cs',hl with
    | [_,_],_=>rfl
  | _=>simp[AObj.kind]at hk
 | _=>cases h
theorem Cx.In.ge {X:Cx} {ob:AObj} {b:Nat} (h:X.In ob b) (h2:ob.two=false):X.B0≤b:=h.resolve_right fun q=>by rw[h2]at q; cases q.1
theorem Cx.In.kind {X:Cx} {ob ob':AObj} {b:Nat} (h:X.In ob b) (hk:ob'.kind=ob.kind) (hl:ob.kind=none→ob'.cells.length=ob.cells.length):X.In ob' b:=h.imp_right fun q=>⟨AObj.two_of hk (hl (by
 cases ob with
 | box cs=>rfl
 | _=>cases q.1)) q.1,q.2⟩
theorem Inv.below {X:Cx} {w w':World} (hi:Inv E E0 X w) (h:BelowO X.B0 X.low w w'):Below E0 w w':=h.full hi.e0 fun k hk=>(hi.low k hk).1
theorem q5g {w:World} {r:Nat} {o:Obj} (h:w.heap[r]?=some o):r < w.heap.size:=by
 rcases Nat.lt_or_ge r w.heap.size with h' | h'
 ·exact h'
 ·simp[Array.getElem?_eq_none h']at h
theorem q2p {X:Cx} {w w':World} (hi:Inv E E0 X w) (hb:Below w.heap.size w w'):Ext X w { X with hs:=w'.heap.size } w':=by
 refine ⟨rfl,rfl,Below.o (hb.mono hi.b0),Nat.le_refl _,fun b o hp=>⟨?_,hb.cell (p:=⟨b,o,none⟩) (q35 hi hp)⟩,fun _ _ h=>h,fun _ ob _ _ e=>⟨ob,e,Nat.le_refl _,fun _=>⟨rfl,rfl,rfl⟩⟩,fun _ _ _ _ h=>h,rfl⟩
 rcases hp with h | ⟨h1,h2,h3⟩
 ·exact .inl h
 ·exact .inr ⟨h1,by have:=hb.size; rw[hi.hs]at h2; show b < w'.heap.size; omega,h3⟩
theorem q3p {X:Cx} {w w':World} (hi:Inv E E0 X w) (hb:Below w.heap.size w w') (he:E w'):Inv E E0 { X with hs:=w'.heap.size } w':=by
 refine ⟨rfl,Nat.le_trans hi.b0 hb.size,hi.e0,he,fun id ob h1 h2 h3=>?_,hi.inj,hi.glob,hi.bare,hi.maps.carry (q2p hi hb) (fun r arr k _ h=>(hb.block _ (q5g h)).trans h) fun _ _ _ h h'=>⟨h,h'⟩,hi.low⟩
 obtain ⟨l,hl,hB,cs,T,hg,hz,hr⟩:=hi.ob id ob h1 h2 h3
 have hlt:l.1 < w.heap.size:=by
  rcases Nat.lt_or_ge l.1 w.heap.size with h' | h'
  ·exact h'
  ·simp[Array.getElem?_eq_none h']at hg
 refine ⟨l,hl,hB,cs,T,(hb.block _ hlt).trans hg,hz,fun i c hc=>?_⟩
 obtain ⟨u,hu,hcr⟩:=hr i c hc
 exact ⟨u,hu,CRep.ext (q2p hi hb) hcr⟩
def Cx.plan (X:Cx) (ob:AObj):Cx:={ X with σ:=X.σ++[some ob],pend:=fun i=>X.pend i∨i=X.σ.length }
theorem q4t {σ:Sto} {ob:AObj} {id:Nat} {o:Option AObj} (h:(σ++[some ob])[id]?=some o):(id < σ.length∧σ[id]?=some o)∨(id=σ.length∧o=some ob):=by
 rw[List.getElem?_append]at h
 split at h
 ·exact .inl ⟨by assumption,h⟩
 ·rename_i hge
  refine .inr ?_
  rcases Nat.eq_or_lt_of_le (Nat.le_of_not_lt hge) with e | e
  ·rw[← e]at h ⊢; simp at h; exact ⟨rfl,h.symm⟩
  ·rw[List.getElem?_eq_none (by simp; omega)]at h; cases h
theorem quv {X:Cx} {ob:AObj} {b o:Nat} (h:X.prot b o):(X.plan ob).prot b o:=by
 rcases h with h | ⟨h1,h2,h3⟩
 ·exact .inl h
 ·refine .inr ⟨h1,h2,fun id ob' l e hp hl hb=>?_⟩
  rcases q4t e with ⟨_,e'⟩ | ⟨rfl,_⟩
  ·exact h3 id ob' l e' (fun k=>hp (.inl k)) hl hb
  ·exact absurd (.inr rfl) hp
theorem qfm {X:Cx} {w:World} (ob:AObj):Ext X w (X.plan ob) w:=by
 refine ⟨rfl,rfl,BelowO.refl _ _ _,by simp[Cx.plan],fun b o h=>⟨quv h,rfl⟩,fun id hl hp k=>?_,fun id ob' hl hp e=>?_,fun _ _ _ _ h=>h,rfl⟩
 ·rcases k with k | k
  ·exact hp k
  ·omega
 ·rcases q4t e with ⟨_,e'⟩ | ⟨rfl,_⟩
  ·exact ⟨ob',e',Nat.le_refl _,fun _=>⟨rfl,rfl,rfl⟩⟩
  ·exact absurd hl (Nat.lt_irrefl _)
theorem quu {X:Cx} {w:World} (hi:Inv E E0 X w) (ob:AObj):Inv E E0 (X.plan ob) w:=by
 refine ⟨hi.hs,hi.b0,hi.e0,hi.env,fun id ob' e hp hbr=>?_,fun id id' ob1 ob2 l l' e e' hp hp' hl hl' hb=>?_,hi.glob,fun id ob' e hp hbr=>?_,hi.maps.carry (qfm ob) (fun _ _ _ _ h=>h) fun id ag es e hp=>?_,hi.low⟩
 ·rcases q4t e with ⟨_,e'⟩ | ⟨rfl,_⟩
  ·obtain ⟨l,hl,hB,cs,T,hg,hz,hr⟩:=hi.ob id ob' e' (fun k=>hp (.inl k)) hbr
   exact ⟨l,hl,hB,cs,T,hg,hz,fun i c hc=>(hr i c hc).imp fun u hu=>⟨hu.1,CRep.ext (qfm ob) hu.2⟩⟩
  ·exact absurd (.inr rfl) hp
 ·rcases q4t e with ⟨_,e1⟩ | ⟨rfl,_⟩
  ·rcases q4t e' with ⟨_,e2⟩ | ⟨rfl,_⟩
   ·exact hi.inj id id' ob1 ob2 l l' e1 e2 (fun k=>hp (.inl k)) (fun k=>hp' (.inl k)) hl hl' hb
   ·exact absurd (.inr rfl) hp'
  ·exact absurd (.inr rfl) hp
 ·rcases q4t e with ⟨_,e'⟩ | ⟨rfl,_⟩
  ·exact hi.bare id ob' e' (fun k=>hp (.inl k)) hbr
  ·exact absurd (.inr rfl) hp
 ·rcases q4t e with ⟨_,e'⟩ | ⟨rfl,_⟩
  ·exact ⟨e',fun k=>hp (.inl k)⟩
  ·exact absurd (.inr rfl) hp
def Cx.born (X:Cx) (id:Nat) (l:Nat×Nat):Cx:={ X with hs:=X.hs+1,loc:=fun i=>if i=id then some l else X.loc i,pend:=fun i=>X.pend i∧i≠id }
theorem qai {X:Cx} {w:World} (hi:Inv E E0 X w) {id:Nat} (hp:X.pend id) (cs:Array Value) (T:TypeId) :
  Ext X w (X.born id (w.heap.size,cs.size)) (w.alloc (.cells cs T (0,0))):=by
 refine ⟨rfl,rfl,Below.o ((Below.refl _ _).alloc hi.b0 _),Nat.le_refl _,fun b o h=>⟨?_,?_⟩,fun _ _ h k=>h k.1,fun id' ob' _ hq e=>⟨ob',e,Nat.le_refl _,fun _=>⟨?_,rfl,rfl⟩⟩,fun _ _ _ _ h=>h,rfl⟩
 ·have hlt:=q35 hi h
  rcases h with h | ⟨h1,h2,h3⟩
  ·exact .inl h
  ·refine .inr ⟨h1,Nat.lt_succ_of_lt h2,fun id' ob' l e hq hl hb=>?_⟩
   by_cases hid:id'=id
   ·subst hid
    simp[Cx.born]at hl
    subst hl
    simp at hb
    omega
   ·simp[Cx.born,hid]at hl
    exact h3 id' ob' l e (fun k=>hq ⟨k,hid⟩) hl hb
 ·have hlt:=q35 hi h
  exact ((Below.refl _ _).alloc (Nat.le_refl _) _:Below w.heap.size w _).cell (p:=⟨b,o,none⟩) hlt
 ·have:id'≠id:=fun k=>hq (k ▸ hp)
  simp[Cx.born,this]
theorem qdd {X:Cx} {w:World} (hi:Inv E E0 X w) (hE:∀ w w',E w→Below E0 w w'→E w') {id:Nat} (hp:X.pend id) {ob:AObj} (ho:X.σ[id]?=some (some ob)) (hbare:ob.bare=false) (cs:Array Value) (T:TypeId) (hr:q2l X w ob cs) :
  Inv E E0 (X.born id (w.heap.size,cs.size)) (w.alloc (.cells cs T (0,0))):=by
 have hx:=qai hi hp cs T
 refine ⟨by simp[Cx.born,hi.hs],by have:=hi.b0; simp[Cx.born]; omega,hi.e0,hE _ _ hi.env ((Below.refl _ _).alloc (Nat.le_trans hi.e0 hi.b0) _),fun id' ob' e hq hbr=>?_,fun i i' ob1 ob2 l l' e e' hq hq' hl hl' hb=>?_,hi.glob,fun id' ob' e hq hbr=>?_,hi.maps.carry hx (fun r arr k _ h=>(Below.heap_alloc _ _ _ (q5g h)).trans h) fun id' ag es e hq=>?_,hi.low⟩
 ·by_cases hid:id'=id
  ·subst hid
   have:ob'=ob:=by rw[show (X.born id' (w.heap.size,cs.size)).σ[id']?=X.σ[id']? from rfl,ho]at e; simpa using e.symm
   subst this
   refine ⟨(w.heap.size,cs.size),by simp[Cx.born],.inl hi.b0,cs,T,?_,rfl,fun i c hc=>(hr i c hc).imp fun u hu=>⟨hu.1,CRep.ext hx hu.2⟩⟩
   show (w.heap.push _)[w.heap.size]?=_
   simp
  ·have hq':¬ X.pend id':=fun k=>hq ⟨k,hid⟩
   obtain ⟨l,hl,hB,cs',T',hg,hz,hr'⟩:=hi.ob id' ob' e hq' hbr
   refine ⟨l,by simp[Cx.born,hid,hl],hB,cs',T',?_,hz,fun i c hc=>(hr' i c hc).imp fun u hu=>⟨hu.1,CRep.ext hx hu.2⟩⟩
   have hlt:l.1 < w.heap.size:=by
    rcases Nat.lt_or_ge l.1 w.heap.size with h' | h'
    ·exact h'
    ·simp[Array.getElem?_eq_none h']at hg
   rw[Below.heap_alloc _ _ _ hlt]; exact hg
 ·have key:∀ (j:Nat) (ob:AObj) (l:Nat×Nat),X.σ[j]?=some (some ob)→¬ (X.born id (w.heap.size,cs.size)).pend j→(X.born id (w.heap.size,cs.size)).loc j=some l→(j=id∧l.1=w.heap.size)∨(j≠id∧¬ X.pend j∧X.loc j=some l∧l.1 < w.heap.size):=by
   intro j ob l e hq hl
   by_cases hj:j=id
   ·subst hj
    simp[Cx.born]at hl
    exact .inl ⟨rfl,by rw[← hl]⟩
   ·have hq':¬ X.pend j:=fun k=>hq ⟨k,hj⟩
    simp[Cx.born,hj]at hl
    have hnb:ob.bare=false:=by
     cases hb0:ob.bare with
     | false=>rfl
     | true=>rw[hi.bare j ob e hq' hb0]at hl; cases hl
    obtain ⟨l0,hl0,_,cs0,T0,hg0,_,_⟩:=hi.ob j ob e hq' hnb
    rw[hl]at hl0
    obtain rfl:l=l0:=by simpa using hl0
    refine .inr ⟨hj,hq',hl,?_⟩
    rcases Nat.lt_or_ge l.1 w.heap.size with h' | h'
    ·exact h'
    ·simp[Array.getElem?_eq_none h']at hg0
  rcases key i ob1 l e hq hl with ⟨a1,a2⟩ | ⟨a1,a2,a3,a4⟩
  ·rcases key i' ob2 l' e' hq' hl' with ⟨b1,b2⟩ | ⟨b1,b2,b3,b4⟩
   ·omega
   ·omega
  ·rcases key i' ob2 l' e' hq' hl' with ⟨b1,b2⟩ | ⟨b1,b2,b3,b4⟩
   ·omega
   ·exact hi.inj i i' ob1 ob2 l l' e e' a2 b2 a3 b3 hb
 ·by_cases hid:id'=id
  ·subst hid
   rw[show (X.born id' (w.heap.size,cs.size)).σ[id']?=X.σ[id']? from rfl,ho]at e
   obtain rfl:ob=ob':=by simpa using e
   rw[hbare]at hbr; cases hbr
  ·simp only[Cx.born,if_neg hid]
   exact hi.bare id' ob' e (fun k=>hq ⟨k,hid⟩) hbr
 ·have e':X.σ[id']?=some (some (.mp ag es)):=e
  refine ⟨e',fun k=>hq ⟨k,fun hid=>?_⟩⟩
  subst hid
  rw[ho]at e'
  obtain rfl:ob=.mp ag es:=by simpa using e'
  cases hbare
theorem q1p {σ:Sto} {id:Nat} {o:Option AObj} {j:Nat} {x:Option AObj} (h:(σ.set id o)[j]?=some x):(j=id∧x=o)∨(j≠id∧σ[j]?=some x):=by
 rw[List.getElem?_set]at h
 split at h
 ·rename_i e
  split at h
  ·exact .inl ⟨e.symm,by simpa using h.symm⟩
  ·cases h
 ·rename_i e; exact .inr ⟨fun k=>e k.symm,h⟩
theorem q85 {X:Cx} {w w':World} (hi:Inv E E0 X w) {id:Nat} {ob ob':AObj} {l:Nat×Nat} (ho:X.σ[id]?=some (some ob)) (hp:¬ X.pend id) (hl:X.loc id=some l)
  (hv:ob.ver≤ob'.ver) (hk:ob'.kind=ob.kind) (hc:ob.ver=ob'.ver→ob.cells.length=ob'.cells.length) (hf:ob.fr≤ob'.fr)
  (hb:BelowO X.B0 X.low w w') (hother:∀ b o,b≠l.1∨o < ob.fr→w'.cell? ⟨b,o,none⟩=w.cell? ⟨b,o,none⟩) :
  Ext X w { X with σ:=X.σ.set id (some ob') } w':=by
 refine ⟨rfl,rfl,hb,by simp,fun b o h=>?_,fun _ _ h=>h,fun j obj _ hq e=>?_,fun _ _ _ _ h=>h,rfl⟩
 ·have hlt:=q35 hi h
  refine ⟨?_,?_⟩
  ·rcases h with h | ⟨h1,h2,h3⟩
   ·exact .inl h
   ·refine .inr ⟨h1,h2,fun j obj l' e hq hl' hb'=>?_⟩
    rcases q1p e with ⟨rfl,e1⟩ | ⟨_,e1⟩
    ·have:=h3 j ob l' ho hq hl' hb'
     simp at e1; subst e1; omega
    ·exact h3 j obj l' e1 hq hl' hb'
  ·rcases h with h | ⟨h1,h2,h3⟩
   ·obtain ⟨l0,hl0,hB,_⟩:=hi.ob id ob ho hp (hi.not_bare ho hp hl)
    rw[hl]at hl0
    obtain rfl:l=l0:=by simpa using hl0
    exact hother b o (.inl (hi.in_ne hB h))
   ·by_cases hbl:b=l.1
    ·exact hother b o (.inr (h3 id ob l ho hp hl hbl.symm))
    ·exact hother b o (.inl hbl)
 ·rcases q1p e with ⟨rfl,e1⟩ | ⟨_,e1⟩
  ·simp at e1; subst e1
   exact ⟨ob,ho,hv,fun h=>⟨rfl,hk,hc h⟩⟩
  ·exact ⟨obj,e1,Nat.le_refl _,fun _=>⟨rfl,rfl,rfl⟩⟩
theorem q86 {X:Cx} {w w':World} (hi:Inv E E0 X w) {id:Nat} {ob ob':AObj} {l:Nat×Nat} (ho:X.σ[id]?=some (some ob)) (hp:¬ X.pend id) (hl:X.loc id=some l) (hkind:ob'.kind=ob.kind)
  (hx:Ext X w { X with σ:=X.σ.set id (some ob') } w') (he:E w') (hsz:w'.heap.size=w.heap.size)
  (hother:∀ b,b≠l.1→w'.heap[b]?=w.heap[b]?) (cs':Array Value) (T':TypeId) (hg':w'.heap[l.1]?=some (.cells cs' T' (0,0))) (hz':cs'.size=l.2)
  (hr:q2l { X with σ:=X.σ.set id (some ob') } w' ob' cs'):Inv E E0 { X with σ:=X.σ.set id (some ob') } w':=by
 have hbk:ob'.bare=ob.bare:=by cases ob <;> cases ob' <;> simp[AObj.kind]at hkind <;> rfl
 refine ⟨hi.hs.trans hsz.symm,by have:=hi.b0; show X.B0≤_; omega,hi.e0,he,fun j obj e hq hbr=>?_,fun i i' ob1 ob2 l1 l2 e e' hq hq' h1 h2 hb=>?_,hi.glob,fun j obj e hq hbr=>?_,hi.maps.carry hx (fun r arr k _ h=>(hother r fun hr=>?_).trans h) fun id' ag es e hq=>?_,hi.low⟩
 ·rcases q1p e with ⟨rfl,e1⟩ | ⟨hj,e1⟩
  ·simp at e1; subst e1
   obtain ⟨l0,hl0,hB,_⟩:=hi.ob j ob ho hp (hi.not_bare ho hp hl)
   rw[hl]at hl0
   obtain rfl:l=l0:=by simpa using hl0
   refine ⟨l,hl,hB.kind hkind fun hn=>?_,cs',T',hg',hz',hr⟩
   obtain ⟨o0,e0,hv,hs⟩:=hx.ids j obj (List.getElem?_eq_some_iff.1 ho).1 hp e
   rw[ho]at e0
   obtain rfl:ob=o0:=by simpa using e0
   have h0:ob.ver=obj.ver:=by
    cases ob with
    | box _=>cases obj with
     | box _=>rfl
     | _=>simp[AObj.kind]at hkind
    | _=>simp[AObj.kind]at hn
   exact ((hs h0).2.2).symm
  ·obtain ⟨l0,hl0,hB,cs,T,hg,hz,hr0⟩:=hi.ob j obj e1 hq hbr
   have hne:l0.1≠l.1:=fun k=>hj (hi.inj j id obj ob l0 l e1 ho hq hp hl0 hl k)
   exact ⟨l0,hl0,hB,cs,T,(hother _ hne).trans hg,hz,fun i c hc=>(hr0 i c hc).imp fun u hu=>⟨hu.1,CRep.ext hx hu.2⟩⟩
 ·have key:∀ (j:Nat) (o:AObj),(X.σ.set id (some ob'))[j]?=some (some o)→∃ o',X.σ[j]?=some (some o'):=by
   intro j o e
   rcases q1p e with ⟨rfl,_⟩ | ⟨_,e1⟩
   ·exact ⟨ob,ho⟩
   ·exact ⟨o,e1⟩
  obtain ⟨o1,g1⟩:=key i ob1 e
  obtain ⟨o2,g2⟩:=key i' ob2 e'
  exact hi.inj i i' o1 o2 l1 l2 g1 g2 hq hq' h1 h2 hb
 ·rcases q1p e with ⟨rfl,e1⟩ | ⟨_,e1⟩
  ·simp at e1; subst e1
   rw[hbk]at hbr
   exact hi.bare j ob ho hq hbr
  ·exact hi.bare j obj e1 hq hbr
 ·obtain ⟨l0,hl0,hB,cs,T,hg,_⟩:=hi.ob id ob ho hp (hi.not_bare ho hp hl)
  rw[hl]at hl0
  obtain rfl:l=l0:=by simpa using hl0
  rw[hr,hg]at h; cases h
 ·rcases q1p e with ⟨rfl,e1⟩ | ⟨_,e1⟩
  ·simp at e1; subst e1
   have:=hi.not_bare ho hp hl
   rw[← hbk]at this; cases this
  ·exact ⟨e1,hq⟩
def Cx.move (X:Cx) (id:Nat) (ob':AObj) (l:Nat×Nat):Cx:={ X with hs:=X.hs+1,σ:=X.σ.set id (some ob'),loc:=fun i=>if i=id then some l else X.loc i }
theorem qf5 {X:Cx} {w:World} (hi:Inv E E0 X w) {id:Nat} {ob ob':AObj} (ho:X.σ[id]?=some (some ob)) (hv:ob.ver < ob'.ver) (cs:Array Value) (T:TypeId) :
  Ext X w (X.move id ob' (w.heap.size,cs.size)) (w.alloc (.cells cs T (0,0))):=by
 refine ⟨rfl,rfl,Below.o ((Below.refl _ _).alloc hi.b0 _),by simp[Cx.move],fun b o h=>⟨?_,?_⟩,fun _ _ h=>h,fun j obj _ hq e=>?_,fun _ _ _ _ h=>h,rfl⟩
 ·have hlt:=q35 hi h
  rcases h with h | ⟨h1,h2,h3⟩
  ·exact .inl h
  ·refine .inr ⟨h1,Nat.lt_succ_of_lt h2,fun j obj l' e hq hl' hb'=>?_⟩
   rcases q1p e with ⟨rfl,e1⟩ | ⟨hj,e1⟩
   ·simp[Cx.move]at hl'
    subst hl'; simp at hb'; omega
   ·simp[Cx.move,hj]at hl'
    exact h3 j obj l' e1 hq hl' hb'
 ·have hlt:=q35 hi h
  exact ((Below.refl _ _).alloc (Nat.le_refl _) _:Below w.heap.size w _).cell (p:=⟨b,o,none⟩) hlt
 ·rcases q1p e with ⟨rfl,e1⟩ | ⟨hj,e1⟩
  ·simp at e1; subst e1
   exact ⟨ob,ho,by omega,fun h=>by omega⟩
  ·exact ⟨obj,e1,Nat.le_refl _,fun _=>⟨by simp[Cx.move,hj],rfl,rfl⟩⟩
theorem qlj {X:Cx} {w:World} (hi:Inv E E0 X w) (hE:∀ w w',E w→Below E0 w w'→E w') {id:Nat} {ob ob':AObj} (ho:X.σ[id]?=some (some ob)) (hv:ob.ver < ob'.ver) (hbare:ob'.bare=false) (hp:¬ X.pend id) (cs:Array Value) (T:TypeId)
  (hr:q2l X w ob' cs):Inv E E0 (X.move id ob' (w.heap.size,cs.size)) (w.alloc (.cells cs T (0,0))):=by
 have hx:=qf5 hi ho hv cs T
 refine ⟨by simp[Cx.move,hi.hs],by have:=hi.b0; simp[Cx.move]; omega,hi.e0,hE _ _ hi.env ((Below.refl _ _).alloc (Nat.le_trans hi.e0 hi.b0) _),fun j obj e hq hbr=>?_,fun i i' ob1 ob2 l l' e e' hq hq' hl hl' hb=>?_,hi.glob,fun j obj e hq hbr=>?_,hi.maps.carry hx (fun r arr k _ h=>(Below.heap_alloc _ _ _ (q5g h)).trans h) fun id' ag es e hq=>?_,hi.low⟩
 ·rcases q1p e with ⟨rfl,e1⟩ | ⟨hj,e1⟩
  ·simp at e1; subst e1
   refine ⟨(w.heap.size,cs.size),by simp[Cx.move],.inl hi.b0,cs,T,?_,rfl,fun i c hc=>(hr i c hc).imp fun u hu=>⟨hu.1,CRep.ext hx hu.2⟩⟩
   show (w.heap.push _)[w.heap.size]?=_
   simp
  ·obtain ⟨l,hl,hB,cs',T',hg,hz,hr'⟩:=hi.ob j obj e1 hq hbr
   refine ⟨l,by simp[Cx.move,hj,hl],hB,cs',T',?_,hz,fun i c hc=>(hr' i c hc).imp fun u hu=>⟨hu.1,CRep.ext hx hu.2⟩⟩
   have hlt:l.1 < w.heap.size:=by
    rcases Nat.lt_or_ge l.1 w.heap.size with h' | h'
    ·exact h'
    ·simp[Array.getElem?_eq_none h']at hg
   rw[Below.heap_alloc _ _ _ hlt]; exact hg
 ·have key:∀ (j:Nat) (o:AObj) (l:Nat×Nat),(X.σ.set id (some ob'))[j]?=some (some o)→¬ X.pend j→(X.move id ob' (w.heap.size,cs.size)).loc j=some l→(j=id∧l.1=w.heap.size)∨(j≠id∧(∃ o',X.σ[j]?=some (some o'))∧X.loc j=some l∧l.1 < w.heap.size):=by
   intro j o l e hq hl
   rcases q1p e with ⟨rfl,_⟩ | ⟨hj,e1⟩
   ·simp[Cx.move]at hl
    exact .inl ⟨rfl,by rw[← hl]⟩
   ·simp[Cx.move,hj]at hl
    obtain ⟨l0,hl0,_,cs0,T0,hg0,_,_⟩:=hi.ob j o e1 hq (hi.not_bare e1 hq hl)
    rw[hl]at hl0
    obtain rfl:l=l0:=by simpa using hl0
    refine .inr ⟨hj,⟨o,e1⟩,hl,?_⟩
    rcases Nat.lt_or_ge l.1 w.heap.size with h' | h'
    ·exact h'
    ·simp[Array.getElem?_eq_none h']at hg0
  rcases key i ob1 l e hq hl with ⟨a1,a2⟩ | ⟨a1,⟨oa,a2⟩,a3,a4⟩
  ·rcases key i' ob2 l' e' hq' hl' with ⟨b1,b2⟩ | ⟨b1,b2,b3,b4⟩
   ·omega
   ·omega
  ·rcases key i' ob2 l' e' hq' hl' with ⟨b1,b2⟩ | ⟨b1,⟨ob3,b2⟩,b3,b4⟩
   ·omega
   ·exact hi.inj i i' oa ob3 l l' a2 b2 hq hq' a3 b3 hb
 ·rcases q1p e with ⟨rfl,e1⟩ | ⟨hj,e1⟩
  ·simp at e1; subst e1
   rw[hbare]at hbr; cases hbr
  ·simp only[Cx.move,if_neg hj]
   exact hi.bare j obj e1 hq hbr
 ·rcases q1p e with ⟨rfl,e1⟩ | ⟨_,e1⟩
  ·simp at e1; subst e1; cases hbare
  ·exact ⟨e1,hq⟩
end Abs
end Go.Proofs.YtpidpioifnnllaaGreatDoor
namespace Go.Proofs.YtpidpioifnnllaaGreatDoor
namespace Abs
open Go.RowKit
variable {E : World → Prop} {E0 : Nat} {P : Program} {X : Cx} {w : World}
theorem qwh {t:TypeId} {ag:Bool} (h:isAgg? P t=some ag):∃ d,P.underlying t=some d∧(match d with | .struct _ | .array _ _=>true | _=>false)=ag:=by
 unfold isAgg? at h
 cases hu:P.underlying t with
 | none=>simp[hu]at h
 | some d=>cases d <;> simp[hu]at h <;> subst h <;> exact ⟨_,rfl,rfl⟩
theorem run_isAgg' {t:TypeId} {ag:Bool} (h:isAgg? P t=some ag) (w:World):(isAgg t).run P w=.ok ag w:=by
 obtain ⟨d,hu,hd⟩:=qwh h
 unfold isAgg
 rw[Sem.run_bind,run_underlying hu]
 simp only[Result.andThen_ok]
 cases d <;> simp_all <;> rfl
theorem qry {t:TypeId} {n:Nat} (h:size? P t=some n):∃ i,P.info? t=some i∧i.size=n:=by
 unfold size? at h
 cases hi:P.info? t with
 | none=>simp[hi]at h
 | some i=>simp[hi]at h; exact ⟨i,rfl,h⟩
theorem run_typeInfo' {t:TypeId} {i:TypeInfo} (h:P.info? t=some i) (w:World):(typeInfo t).run P w=.ok i w:=by
 simp[typeInfo,h]
theorem run_sizeOf' {t:TypeId} {n:Nat} (h:size? P t=some n) (w:World):(sizeOf t).run P w=.ok n w:=by
 obtain ⟨i,hi,rfl⟩:=qry h
 simp[sizeOf,run_typeInfo' hi]
theorem qiz {s:TypeId} {f fo n:Nat} {ag:Bool} (h:field? P s f=some (fo,n,ag)) :
  ∃ fields g,P.underlying s=some (.struct fields)∧fields[f]?=some g∧size? P g.type=some n∧isAgg? P g.type=some ag∧g.offset=fo:=by
 unfold field? at h
 split at h
 ·rename_i fields hu
  split at h
  ·rename_i g hg
   split at h
   ·rename_i n' a' h1 h2
    simp at h
    obtain ⟨rfl,rfl,rfl⟩:=h
    exact ⟨fields,g,hu,hg,h1,h2,rfl⟩
   ·cases h
  ·cases h
 ·cases h
theorem q4r {t e:TypeId} {sz by_:Nat} (h:elem? P t=some (e,sz,by_)):∃ i,P.underlying t=some (.slice e)∧P.info? e=some i∧i.size=sz∧i.bytes=by_:=by
 unfold elem? at h
 split at h
 ·rename_i e' hu
  split at h
  ·rename_i i hi
   simp at h
   obtain ⟨rfl,rfl,rfl⟩:=h
   exact ⟨i,hu,hi,rfl,rfl⟩
  ·cases h
 ·cases h
theorem qcz {t:TypeId} {n sz:Nat} {ag:Bool} (h:array? P t=some (n,sz,ag)):∃ e,P.underlying t=some (.array n e)∧size? P e=some sz∧isAgg? P e=some ag:=by
 unfold array? at h
 split at h
 ·rename_i n' e hu
  split at h
  ·rename_i s a h1 h2
   simp at h
   obtain ⟨rfl,rfl,rfl⟩:=h
   exact ⟨e,hu,h1,h2⟩
  ·cases h
 ·cases h
theorem q6n {t:TypeId} {z:AV} (h:zero? P t=some z):∃ i v,P.info? t=some i∧i.zero=some v∧z=q4y v:=by
 unfold zero? at h
 split at h
 ·rename_i i hi
  split at h
  ·rename_i v hv
   simp at h
   exact ⟨i,v,hi,hv,h.symm⟩
  ·cases h
 ·cases h
theorem q7u {t:TypeId} {i:TypeInfo} {v:Value} (h:P.info? t=some i) (hv:i.zero=some v) (w:World):(zeroValue t).run P w=.ok v w:=by
 simp[zeroValue,run_typeInfo' h,hv]
theorem CRep.one {c:AC} {u:Value} (h:CRep X w c u) (hc:c.ok=true):u.oneCell'=true:=by
 cases c with
 | any=>cases hc
 | undef=>cases hc
 | ubool=>obtain ⟨b,rfl⟩:=h; rfl
 | pv x =>
  cases x with
  | sc v=>unfold CRep PRep at h; rw[h.1]; exact h.2
  | sl full n cs =>
   unfold CRep PRep at h
   rcases h with ⟨rfl,_⟩ | ⟨b,off,cap,rfl,_⟩ | ⟨_,_,a,cap,rfl,_⟩ <;> rfl
  | pp cs=>unfold CRep PRep at h; obtain ⟨b,off,rfl,_⟩:=h; rfl
 | own id ver off len=>exact h.1
 | ptr id ver off=>exact h.1
 | fn f caps=>obtain ⟨us,rfl,_⟩:=h; rfl
 | mapr id=>obtain ⟨_,_,r,_,rfl⟩:=h; rfl
theorem qpy {u:Value} (h:u.oneCell'=true):u.cells=#[u]:=by cases u <;> first | rfl | cases h
theorem qh3:∀ {cs:List AC} {us:List Value},All2 (CRep X w) cs us→cs.all AC.ok=true→∀ u ∈ us,u.oneCell'=true
 | [],[],_,_,u,hu=>by simp at hu
 | c::cs,x::us,h,ho,u,hu=>by
  simp at ho
  rcases List.mem_cons.1 hu with rfl | hu
  ·exact h.1.one ho.1
  ·exact qh3 h.2 (by simpa using ho.2) u hu
 | [],_::_,h,_,_,_=>h.elim
 | _::_,[],h,_,_,_=>h.elim
theorem q9.cells {v:AV} {u:Value} (h:q9 X w v u) (ho:v.cells.all AC.ok=true):All2 (CRep X w) v.cells u.cells.toList∧∀ x ∈ u.cells.toList,x.oneCell'=true:=by
 cases v with
 | cell c =>
  simp[AV.cells]at ho
  have h1:=CRep.one (c:=c) h ho
  rw[qpy h1]
  exact ⟨⟨h,trivial⟩,by simpa using h1⟩
 | agg cs =>
  obtain ⟨us,rfl,ha⟩:=h
  exact ⟨ha,qh3 ha ho⟩
theorem qlt (v:Value):CRep X w (q9a v) v:=by
 unfold q9a
 split
 ·unfold CRep PRep; exact ⟨rfl,by assumption⟩
 ·trivial
theorem q4z (v:Value):q9 X w (q4y v) v:=by
 cases v with
 | agg cs =>
  refine ⟨cs,rfl,All2.of_get (by simp) fun i a b ha hb=>?_⟩
  simp at ha
  obtain ⟨x,hx,rfl⟩:=ha
  simp at hb
  rw[hx]at hb
  obtain rfl:x=b:=by simpa using hb
  exact qlt _
 | _=>simp only[q4y,q9]; exact qlt _
theorem q1t {v:Value} (h:v.oneCell'=true):TRep X w (Abs.sc v) v:=by
 show CRep X w (.pv (.sc v)) v
 unfold CRep PRep
 exact ⟨rfl,h⟩
theorem q45 (b o i:Nat):(⟨b,o,none⟩:Addr).add i=⟨b,o+i,none⟩:=by unfold Addr.add; split <;> simp_all
def q3g (X:Cx) (w:World) (b o:Nat) (cs:List AC):Prop:=∀ (i:Nat) (c:AC),cs[i]?=some c→∃ u,w.cell? ⟨b,o+i,none⟩=some u∧CRep X w c u
theorem q3g.vals:∀ {cs:List AC} {b o:Nat},q3g X w b o cs→∃ us,All2 (CRep X w) cs us∧∀ (j:Nat) (v:Value),us[j]?=some v→w.cell? ⟨b,o+j,none⟩=some v
 | [],_,_,_=>⟨[],trivial,by simp⟩
 | c::r,b,o,h=>by
  obtain ⟨u,hu,hc⟩:=h 0 c rfl
  obtain ⟨us,h1,h2⟩:=q3g.vals (cs:=r) (b:=b) (o:=o+1) (fun i c' e=>by
   have:=h (i+1) c' (by simpa using e)
   rwa [show o+(i+1)=o+1+i by omega]at this)
  refine ⟨u::us,⟨hc,h1⟩,fun j v e=>?_⟩
  cases j with
  | zero=>simp at e; subst e; exact hu
  | succ j =>
   have:=h2 j v (by simpa using e)
   rwa [show o+1+j=o+(j+1) by omega]at this
theorem q3g.drop {cs:List AC} {b o:Nat} (h:q3g X w b o cs) (k:Nat):q3g X w b (o+k) (cs.drop k):=fun i c e=>by
 have:=h (k+i) c (by simpa using e)
 rwa [show o+(k+i)=o+k+i by omega]at this
theorem q3g.take {cs:List AC} {b o:Nat} (h:q3g X w b o cs) (k:Nat):q3g X w b o (cs.take k):=fun i c e=>by
 rw[List.getElem?_take]at e
 split at e
 ·exact h i c e
 ·cases e
theorem qew {cs:List AC} {b o off n:Nat} {t:TypeId} {ag:Bool} {v:AV} (h:q3g X w b o cs) (hs:size? P t=some n) (ha:isAgg? P t=some ag) (hr:rd cs off n ag=some v) :
  ∃ u,(loadVar t ⟨b,o+off,none⟩).run P w=.ok u w∧q9 X w v u:=by
 unfold rd at hr
 cases ag with
 | true =>
  simp at hr
  obtain ⟨hle,rfl⟩:=hr
  obtain ⟨us,h1,h2⟩:=((h.drop off).take n).vals
  have hl:us.length=n:=by rw[← h1.length]; simp; omega
  have hl2:=run_loadCells_list (P:=P) w ⟨b,o+off,none⟩ us (fun j v e=>by rw[q45]; exact h2 j v e)
  rw[hl]at hl2
  refine ⟨.agg us.toArray,?_,us.toArray,rfl,by simpa using h1⟩
  simp[loadVar,run_isAgg' ha,run_sizeOf' hs,hl2]
 | false =>
  simp at hr
  obtain ⟨c,hc,rfl⟩:=hr
  obtain ⟨u,hu,hcr⟩:=h off c hc
  refine ⟨u,?_,hcr⟩
  simp[loadVar,run_isAgg' ha,hu]
theorem qut {b o:Nat} {cs:List PV} (h:qh X.prot w b o cs):q3g X w b o (cs.map .pv):=fun i c e=>by
 simp at e
 obtain ⟨x,hx,rfl⟩:=e
 obtain ⟨u,h1,_,h3⟩:=h.get i x hx
 exact ⟨u,h1,h3⟩
theorem q6d {σ:Sto} {id ver:Nat} {ob:AObj} (h:live σ id ver=some ob):σ[id]?=some (some ob)∧ob.ver=ver:=by
 unfold live at h
 split at h
 ·rename_i o e
  split at h
  ·simp at h; subst h; exact ⟨e,by assumption⟩
  ·cases h
 ·cases h
theorem q7m (hi:Inv E E0 X w) {id:Nat} {ob:AObj} (ho:X.σ[id]?=some (some ob)) (hp:¬ X.pend id) {l:Nat×Nat} (hl:X.loc id=some l):q3g X w l.1 0 ob.cells:=fun i c e=>by
 obtain ⟨l',hl',_,cs,T,hg,_,hr⟩:=hi.ob id ob ho hp (hi.not_bare ho hp hl)
 rw[hl]at hl'
 obtain rfl:l=l':=by simpa using hl'
 obtain ⟨u,hu,hc⟩:=hr i c e
 exact ⟨u,by simpa [World.cell?,hg] using hu,hc⟩
theorem q5r {id ver off:Nat} {u:Value} (h:q2e X id ver off u) {ob:AObj} (hl:live X.σ id ver=some ob):¬ X.pend id∧X.σ[id]?=some (some ob)∧∃ l,X.loc id=some l∧u=.pointer (some ⟨l.1,off,none⟩):=by
 obtain ⟨h1,h2⟩:=q6d hl
 obtain ⟨_,k1,_,k3⟩:=h
 obtain ⟨_,k4⟩:=k3 ob h1
 exact ⟨k1,h1,k4 h2.symm⟩
theorem q7o {id ver off len:Nat} {u:Value} (h:q3t X id ver off len u) {cells:List PV} {sz fr:Nat} (hl:live X.σ id ver=some (.arr cells sz fr)) :
  ¬ X.pend id∧X.σ[id]?=some (some (.arr cells sz fr))∧∃ l,X.loc id=some l∧off+len*sz≤cells.length∧∃ a cap,u=.slice (some a) len cap∧len≤cap∧a.spot=none∧(cap≠0→a.block=l.1∧a.off=off∧off+cap*sz≤l.2):=by
 obtain ⟨h1,h2⟩:=q6d hl
 obtain ⟨_,k1,_,k3⟩:=h
 obtain ⟨_,k4⟩:=k3 _ h1
 exact ⟨k1,h1,k4 h2.symm⟩
theorem qbn {id ver off len:Nat} {u:Value} (h:q3t X id ver off len u) {sz:Nat} (hl:live X.σ id ver=some (.nilarr sz)) :
  ¬ X.pend id∧X.σ[id]?=some (some (.nilarr sz))∧u=.slice none 0 0∧len=0:=by
 obtain ⟨h1,h2⟩:=q6d hl
 obtain ⟨_,k1,_,k3⟩:=h
 obtain ⟨_,k4⟩:=k3 _ h1
 exact ⟨k1,h1,k4 h2.symm⟩
def qa4 (P:Program) (s:Sem Next) (w:World) (u:Value) (w':World):Prop:=s.run P w=.ok (.value u) w'∨(s.run P w=.ok .skip w'∧u=undef)
structure Still (w w':World):Prop where
 heap:w'.heap=w.heap
 os:w'.os=w.os
 tape:w'.tape=w.tape
 output:w'.output=w.output
theorem Still.refl (w:World):Still w w:=⟨rfl,rfl,rfl,rfl⟩
theorem Still.drew (w:World):Still w w.drew:=⟨rfl,rfl,rfl,rfl⟩
theorem Still.below {w w':World} (h:Still w w') (B:Nat):Below B w w':=⟨h.os,h.tape,h.output,by rw[h.heap]; exact Nat.le_refl _,fun _ _=>by rw[h.heap]⟩
def Got (E:World→Prop) (E0:Nat) (P:Program) (X:Cx) (w:World) (s:Sem Next):Eff→Prop
 | .val v=>∃ u w',qa4 P s w u w'∧Below w.heap.size w w'∧TRep { X with hs:=w'.heap.size } w' v u
 | .new ob f=>∃ w1 cs T u,Still w w1∧qa4 P s w u (w1.alloc (.cells cs T (0,0)))∧q2l X w ob cs∧ob.bare=false ∧
   ∀ (Y:Cx) (id:Nat),Y.σ[id]?=some (some ob)→TRep (Y.born id (w.heap.size,cs.size)) (w1.alloc (.cells cs T (0,0))) (f id) u
 | .upd σ' v=>(∀ id,¬ X.pend id)→∃ u w' X',qa4 P s w u w'∧X'.σ=σ'∧X'.pend=X.pend∧Inv E E0 X' w'∧Ext X w X' w'∧TRep X' w' v u
theorem qn5 (hi:Inv E E0 X w):{ X with hs:=w.heap.size }=X:=by cases X; have:=hi.hs; simp at this; subst this; rfl
theorem qn (hi:Inv E E0 X w) {s:Sem Next} {v:TV} {u:Value} (hr:s.run P w=.ok (.value u) w) (hv:TRep X w v u):Got E E0 P X w s (.val v) :=
 ⟨u,w,.inl hr,Below.refl _ _,by rw[qn5 hi]; exact hv⟩
theorem q1a {t:TV} {c:AC} (h:q11 t=some c):t=.one (.cell c):=by
 unfold q11 at h; split at h <;> simp_all
theorem q64 {t:TV} {v:AV} (h:avOf t=some v):t=.one v:=by
 unfold avOf at h; split at h <;> simp_all
theorem q7v {t:TV} {v:Value} (h:scalar t=some v):t=.one (.cell (.pv (.sc v))):=by
 unfold scalar at h; split at h <;> simp_all
theorem q77 {t:TV} {n:Int} (h:intOf? t=some n):∃ k,t=.one (.cell (.pv (.sc (.int k n)))):=by
 unfold intOf? at h; split at h <;> simp_all
theorem q1s {v u:Value} (h:TRep X w (.one (.cell (.pv (.sc v)))) u):u=v∧v.oneCell'=true:=by
 have h':CRep X w (.pv (.sc v)) u:=h
 unfold CRep PRep at h'
 exact h'
variable {ρ : Operand → TV} {ev : Operand → Value}
theorem qu0 {o:Oper} {t:TypeId} {a:Operand} (ho:o.op=.load t a) (hi:Inv E E0 X w) (ha:TRep X w (ρ a) (ev a)) {eff:Eff} (h:aop P ρ X.σ (.load t a)=some eff) :
  Got E E0 P X w (execOp ev o) eff:=by
 simp only[aop]at h
 split at h
 ·rename_i id ver off n ag h1 h2 h3
  rw[q1a h1]at ha
  split at h
  ·rename_i ob hl
   obtain ⟨hp,hob,l,hloc,hu⟩:=q5r (X:=X) ha hl
   simp at h
   obtain ⟨v,hv,rfl⟩:=h
   obtain ⟨u,hrun,hrep⟩:=qew (P:=P) (t:=t) (q7m hi hob hp hloc) h2 h3 hv
   refine qn hi (u:=u) ?_ hrep
   simp only[Nat.zero_add]at hrun
   simp[execOp,ho,hu,Instr.loadAt,Instr.sureAddr,hrun]
  ·cases h
 ·rename_i cs n ag h1 h2 h3
  rw[q1a h1]at ha
  have ha':PRep X.prot w (.pp cs) (ev a):=ha
  unfold PRep at ha'
  obtain ⟨b,o',hu,hcs⟩:=ha'
  simp at h
  obtain ⟨v,hv,rfl⟩:=h
  obtain ⟨u,hrun,hrep⟩:=qew (P:=P) (t:=t) (qut hcs) h2 h3 hv
  refine qn hi (u:=u) ?_ hrep
  simp only[Nat.add_zero]at hrun
  simp[execOp,ho,hu,Instr.loadAt,Instr.sureAddr,hrun]
 ·cases h
end Abs
end Go.Proofs.YtpidpioifnnllaaGreatDoor
