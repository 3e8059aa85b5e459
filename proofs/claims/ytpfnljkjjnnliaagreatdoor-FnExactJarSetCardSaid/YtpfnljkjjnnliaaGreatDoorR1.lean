/- A small executor over the model's own Code with values in the place of memory, and what its environments stand for. -/
import Derived.Below
import Derived.Orders
import Derived.Scope
import Derived.Laws.World
import Derived.Laws.StructEq
import Derived.Laws.MakeOwn
import Derived.Laws.BytesString
import Derived.Laws.Slices
import Derived.Laws.Cover1
import Derived.Laws.Concat
import Derived.Laws.Small
import Derived.Great.BuildSlice
import Derived.Lib.ConvBytes
local macro "bo%" : term => `(by omega)
set_option linter.unusedVariables false
set_option linter.unusedSimpArgs false
namespace Go.VM
open Go.RowKit
abbrev Bs:=List UInt8
abbrev mkB (l:Bs):ByteArray:=⟨⟨l⟩⟩
inductive Ty where
 | unit | pair (a b:Ty) | int (k:IntKind) | bool | str | lst (e:Ty) | opq | adr (t:Ty) | err | rd (e:Ty)
def Ty.same:(a b:Ty)→Decidable (a=b)
 | .unit,.unit=>.isTrue rfl
 | .unit,.pair _ _=>.isFalse fun e=>Ty.noConfusion e
 | .unit,.int _=>.isFalse fun e=>Ty.noConfusion e
 | .unit,.bool=>.isFalse fun e=>Ty.noConfusion e
 | .unit,.str=>.isFalse fun e=>Ty.noConfusion e
 | .unit,.lst _=>.isFalse fun e=>Ty.noConfusion e
 | .unit,.opq=>.isFalse fun e=>Ty.noConfusion e
 | .pair _ _,.unit=>.isFalse fun e=>Ty.noConfusion e
 | .pair a b,.pair c d=>match Ty.same a c with
  | .isFalse h=>.isFalse fun e=>h (Ty.pair.inj e).1
  | .isTrue h=>match Ty.same b d with
   | .isFalse k=>.isFalse fun e=>k (Ty.pair.inj e).2
   | .isTrue k=>.isTrue (by rw[h,k])
 | .pair _ _,.int _=>.isFalse fun e=>Ty.noConfusion e
 | .pair _ _,.bool=>.isFalse fun e=>Ty.noConfusion e
 | .pair _ _,.str=>.isFalse fun e=>Ty.noConfusion e
 | .pair _ _,.lst _=>.isFalse fun e=>Ty.noConfusion e
 | .pair _ _,.opq=>.isFalse fun e=>Ty.noConfusion e
 | .int _,.unit=>.isFalse fun e=>Ty.noConfusion e
 | .int _,.pair _ _=>.isFalse fun e=>Ty.noConfusion e
 | .int k,.int l=>if h:k=l then .isTrue (congrArg Ty.int h) else .isFalse fun e=>h (Ty.int.inj e)
 | .int _,.bool=>.isFalse fun e=>Ty.noConfusion e
 | .int _,.str=>.isFalse fun e=>Ty.noConfusion e
 | .int _,.lst _=>.isFalse fun e=>Ty.noConfusion e
 | .int _,.opq=>.isFalse fun e=>Ty.noConfusion e
 | .bool,.unit=>.isFalse fun e=>Ty.noConfusion e
 | .bool,.pair _ _=>.isFalse fun e=>Ty.noConfusion e
 | .bool,.int _=>.isFalse fun e=>Ty.noConfusion e
 | .bool,.bool=>.isTrue rfl
 | .bool,.str=>.isFalse fun e=>Ty.noConfusion e
 | .bool,.lst _=>.isFalse fun e=>Ty.noConfusion e
 | .bool,.opq=>.isFalse fun e=>Ty.noConfusion e
 | .str,.unit=>.isFalse fun e=>Ty.noConfusion e
 | .str,.pair _ _=>.isFalse fun e=>Ty.noConfusion e
 | .str,.int _=>.isFalse fun e=>Ty.noConfusion e
 | .str,.bool=>.isFalse fun e=>Ty.noConfusion e
 | .str,.str=>.isTrue rfl
 | .str,.lst _=>.isFalse fun e=>Ty.noConfusion e
 | .str,.opq=>.isFalse fun e=>Ty.noConfusion e
 | .lst _,.unit=>.isFalse fun e=>Ty.noConfusion e
 | .lst _,.pair _ _=>.isFalse fun e=>Ty.noConfusion e
 | .lst _,.int _=>.isFalse fun e=>Ty.noConfusion e
 | .lst _,.bool=>.isFalse fun e=>Ty.noConfusion e
 | .lst _,.str=>.isFalse fun e=>Ty.noConfusion e
 | .lst a,.lst b=>match Ty.same a b with
  | .isTrue h=>.isTrue (congrArg Ty.lst h)
  | .isFalse h=>.isFalse fun e=>h (Ty.lst.inj e)
 | .lst _,.opq=>.isFalse fun e=>Ty.noConfusion e
 | .opq,.unit=>.isFalse fun e=>Ty.noConfusion e
 | .opq,.pair _ _=>.isFalse fun e=>Ty.noConfusion e
 | .opq,.int _=>.isFalse fun e=>Ty.noConfusion e
 | .opq,.bool=>.isFalse fun e=>Ty.noConfusion e
 | .opq,.str=>.isFalse fun e=>Ty.noConfusion e
 | .opq,.lst _=>.isFalse fun e=>Ty.noConfusion e
 | .opq,.opq=>.isTrue rfl
 | .unit,.adr _=>.isFalse fun e=>Ty.noConfusion e
 | .pair _ _,.adr _=>.isFalse fun e=>Ty.noConfusion e
 | .int _,.adr _=>.isFalse fun e=>Ty.noConfusion e
 | .bool,.adr _=>.isFalse fun e=>Ty.noConfusion e
 | .str,.adr _=>.isFalse fun e=>Ty.noConfusion e
 | .lst _,.adr _=>.isFalse fun e=>Ty.noConfusion e
 | .opq,.adr _=>.isFalse fun e=>Ty.noConfusion e
 | .adr _,.unit=>.isFalse fun e=>Ty.noConfusion e
 | .adr _,.pair _ _=>.isFalse fun e=>Ty.noConfusion e
 | .adr _,.int _=>.isFalse fun e=>Ty.noConfusion e
 | .adr _,.bool=>.isFalse fun e=>Ty.noConfusion e
 | .adr _,.str=>.isFalse fun e=>Ty.noConfusion e
 | .adr _,.lst _=>.isFalse fun e=>Ty.noConfusion e
 | .adr _,.opq=>.isFalse fun e=>Ty.noConfusion e
 | .adr a,.adr b=>match Ty.same a b with
  | .isTrue h=>.isTrue (congrArg Ty.adr h)
  | .isFalse h=>.isFalse fun e=>h (Ty.adr.inj e)
 | .unit,.err=>.isFalse fun e=>Ty.noConfusion e
 | .err,.unit=>.isFalse fun e=>Ty.noConfusion e
 | .pair _ _,.err=>.isFalse fun e=>Ty.noConfusion e
 | .err,.pair _ _=>.isFalse fun e=>Ty.noConfusion e
 | .int _,.err=>.isFalse fun e=>Ty.noConfusion e
 | .err,.int _=>.isFalse fun e=>Ty.noConfusion e
 | .bool,.err=>.isFalse fun e=>Ty.noConfusion e
 | .err,.bool=>.isFalse fun e=>Ty.noConfusion e
 | .str,.err=>.isFalse fun e=>Ty.noConfusion e
 | .err,.str=>.isFalse fun e=>Ty.noConfusion e
 | .lst _,.err=>.isFalse fun e=>Ty.noConfusion e
 | .err,.lst _=>.isFalse fun e=>Ty.noConfusion e
 | .opq,.err=>.isFalse fun e=>Ty.noConfusion e
 | .err,.opq=>.isFalse fun e=>Ty.noConfusion e
 | .adr _,.err=>.isFalse fun e=>Ty.noConfusion e
 | .err,.adr _=>.isFalse fun e=>Ty.noConfusion e
 | .err,.err=>.isTrue rfl
 | .unit,.rd _=>.isFalse fun e=>Ty.noConfusion e
 | .rd _,.unit=>.isFalse fun e=>Ty.noConfusion e
 | .pair _ _,.rd _=>.isFalse fun e=>Ty.noConfusion e
 | .rd _,.pair _ _=>.isFalse fun e=>Ty.noConfusion e
 | .int _,.rd _=>.isFalse fun e=>Ty.noConfusion e
 | .rd _,.int _=>.isFalse fun e=>Ty.noConfusion e
 | .bool,.rd _=>.isFalse fun e=>Ty.noConfusion e
 | .rd _,.bool=>.isFalse fun e=>Ty.noConfusion e
 | .str,.rd _=>.isFalse fun e=>Ty.noConfusion e
 | .rd _,.str=>.isFalse fun e=>Ty.noConfusion e
 | .lst _,.rd _=>.isFalse fun e=>Ty.noConfusion e
 | .rd _,.lst _=>.isFalse fun e=>Ty.noConfusion e
 | .opq,.rd _=>.isFalse fun e=>Ty.noConfusion e
 | .rd _,.opq=>.isFalse fun e=>Ty.noConfusion e
 | .adr _,.rd _=>.isFalse fun e=>Ty.noConfusion e
 | .rd _,.adr _=>.isFalse fun e=>Ty.noConfusion e
 | .err,.rd _=>.isFalse fun e=>Ty.noConfusion e
 | .rd _,.err=>.isFalse fun e=>Ty.noConfusion e
 | .rd a,.rd b=>match Ty.same a b with
  | .isTrue h=>.isTrue (congrArg Ty.rd h)
  | .isFalse h=>.isFalse fun e=>h (Ty.rd.inj e)
instance:DecidableEq Ty:=Ty.same
abbrev Ty.den:Ty→Type
 | .unit=>Unit
 | .pair a b=>a.den×b.den
 | .int _=>Int
 | .bool=>Bool
 | .str=>Bs
 | .lst e=>List e.den
 | .opq=>Nat
 | .adr t=>t.den
 | .err=>Bool
 | .rd e=>List e.den
def Ty.dflt:(τ:Ty)→τ.den
 | .unit=>()
 | .pair a b=>(a.dflt,b.dflt)
 | .int _=>(0:Int)
 | .bool=>false
 | .str=>([]:Bs)
 | .lst e=>([]:List e.den)
 | .opq=>(0:Nat)
 | .adr t=>t.dflt
 | .err=>true
 | .rd e=>([]:List e.den)
def Ty.size:Ty→Nat
 | .unit=>0
 | .pair a b=>a.size+b.size
 | _=>1
def Ty.isS:Ty→Bool
 | .unit=>true
 | .pair _ _=>true
 | _=>false
def Ty.field:Ty→Nat→Option (Nat×Ty)
 | .pair a _,0=>some (0,a)
 | .pair a b,i+1=>(b.field i).map fun p=>(a.size+p.1,p.2)
 | _,_=>none
inductive CV where
 | int (k:IntKind) (n:Int)
 | bool (b:Bool)
 | str (l:Bs)
 | val (v:Value)
 | sl (n:Nat)
 | imm (e:Ty) (xs:List e.den)
 | ref (n off:Nat)
 | elm (n:Nat) (e:Ty) (i off:Nat)
 | idx (t:Ty) (x:t.den) (off:Nat)
 | opq (n:Nat)
 | err (b:Bool)
 | clo (h:Nat) (b:Bool) (f:Ty) (y:f.den) (t:Ty) (x:t.den)   -- a function value: a literal with what it captured,or (b) a method with its receiver
inductive TV where
 | one (c:CV)
 | agg (cs:List CV)
inductive SV where
 | t (v:TV)
 | tup (vs:List TV)
inductive Ob where
 | row (e:Ty) (xs:List e.den)
 | box (cs:List CV)
structure Env where
 tm:List (Nat×SV)
 ob:List (Nat×Ob)
 rt:List Nat:=[]
 rn:List Nat:=[]
def look {α:Type}:List (Nat×α)→Nat→Option α
 | [],_=>none
 | (k,v) :: l,n=>bif Nat.beq k n then some v else look l n
def del {α:Type} (n:Nat):List (Nat×α)→List (Nat×α)
 | []=>[]
 | (k,v) :: l=>bif Nat.beq k n then del n l else (k,v) :: del n l
def mem (n:Nat):List Nat→Bool
 | []=>false
 | k :: l=>Nat.beq k n||mem n l
abbrev SV.c (c:CV):SV:=.t (.one c)
abbrev SV.agg (cs:List CV):SV:=.t (.agg cs)
def undefV:SV:=.tup []
def toCells:(t:Ty)→t.den→List CV
 | .unit,_=>[]
 | .pair a b,x=>toCells a x.1++toCells b x.2
 | .int k,n=>[.int k n]
 | .bool,b=>[.bool b]
 | .str,l=>[.str l]
 | .lst e,xs=>[.imm e xs]
 | .opq,n=>[.opq n]
 | .adr t,x=>[.idx t x 0]
 | .err,b=>[.err b]
 | .rd e,xs=>[.imm e xs]
def toTV (t:Ty) (x:t.den):TV :=
 match t,x with
 | .int k,n=>.one (.int k n)
 | .bool,b=>.one (.bool b)
 | .str,l=>.one (.str l)
 | .lst e,xs=>.one (.imm e xs)
 | .opq,n=>.one (.opq n)
 | .adr t,x=>.one (.idx t x 0)
 | .err,b=>.one (.err b)
 | .rd e,xs=>.one (.imm e xs)
 | .unit,_=>.agg []
 | .pair a b,x=>.agg (toCells (.pair a b) x)
def isNil:Value→Bool
 | .slice none 0 0=>true
 | _=>false
def isNilI:Value→Bool
 | .nilIface=>true
 | _=>false
def castL {e' e:Ty} (h:e'=e) (xs:List e'.den):List e.den:=h ▸ xs
def listOf (ob:Nat→Option Ob) (e:Ty):CV→Option (List e.den)
 | .imm e' xs=>if h:e'=e then some (castL h xs) else none
 | .sl n=>match ob n with
  | some (.row e' xs)=>if h:e'=e then some (castL h xs) else none
  | _=>none
 | .val v=>bif isNil v then some [] else none
 | _=>none
def castD {t' t:Ty} (h:t'=t) (x:t'.den):t.den:=h ▸ x
def adrOf (t:Ty):CV→Option t.den
 | .idx t' x off=>bif Nat.beq off 0 then (if h:t'=t then some (castD h x) else none) else none
 | _=>none
def ofCells (ob:Nat→Option Ob):(t:Ty)→List CV→Option (t.den×List CV)
 | .unit,cs=>some ((),cs)
 | .pair a b,cs=>match ofCells ob a cs with
  | none=>none
  | some p=>match ofCells ob b p.2 with
   | none=>none
   | some q=>some ((p.1,q.1),q.2)
 | .int k,c :: cs=>match c with
  | .int k' n=>bif decide (k'=k) then some (n,cs) else none
  | _=>none
 | .bool,c :: cs=>match c with
  | .bool b=>some (b,cs)
  | _=>none
 | .str,c :: cs=>match c with
  | .str l=>some (l,cs)
  | _=>none
 | .lst e,c :: cs=>match listOf ob e c with
  | some xs=>some (xs,cs)
  | none=>none
 | .opq,c :: cs=>match c with
  | .opq n=>some (n,cs)
  | _=>none
 | .adr t,c :: cs=>match adrOf t c with
  | some x=>some (x,cs)
  | none=>none
 | .err,c :: cs=>match c with
  | .err b=>some (b,cs)
  | _=>none
 | .rd e,c :: cs=>match listOf ob e c with
  | some xs=>some (xs,cs)
  | none=>none
 | _,[]=>none
def okC:CV→Bool
 | .val v=>v.oneCell'
 | .clo ..=>false
 | _=>true
def okCs:List CV→Bool
 | []=>true
 | c :: cs=>okC c&&okCs cs
def cellsOf:TV→List CV
 | .one c=>[c]
 | .agg cs=>cs
def denTV (ob:Nat→Option Ob) (t:Ty) (v:TV):Option t.den :=
 match ofCells ob t (cellsOf v) with
 | some (x,[])=>bif (match v with | .one _=>!t.isS | .agg _=>t.isS) then some x else none
 | _=>none
def Env.get (r:Env) (t:Nat):Option SV:=look r.tm t
def Env.obj (r:Env) (n:Nat):Option Ob:=look r.ob n
def CV.names:CV→List Nat
 | .sl n=>[n]
 | .ref n _=>[n]
 | .elm n _ _ _=>[n]
 | _=>[]
def cnames:List CV→List Nat
 | []=>[]
 | c :: cs=>c.names++cnames cs
def TV.names (v:TV):List Nat:=cnames (cellsOf v)
def tnames:List TV→List Nat
 | []=>[]
 | v :: vs=>v.names++tnames vs
def SV.names:SV→List Nat
 | .t v=>v.names
 | .tup vs=>tnames vs
def Ob.names:Ob→List Nat
 | .row _ _=>[]
 | .box cs=>cnames cs
def freshT (n:Nat):List (Nat×SV)→Bool
 | []=>true
 | (_,v) :: l=>!(mem n v.names)&&freshT n l
def freshO (n:Nat):List (Nat×Ob)→Bool
 | []=>true
 | (k,v) :: l=>!(Nat.beq k n) && !(mem n v.names)&&freshO n l
def Env.fresh (r:Env) (n:Nat):Bool:=freshT n r.tm&&freshO n r.ob
def nm (t j:Nat):Nat:=64*t+j
def parBase:Nat:=1000000000
def pn (i j:Nat):Nat:=parBase+2*i+j
variable {R:Type}
def grd (b:Bool) (x:Option R):Option R:=bif b then x else none
def Env.put (r:Env) (N:Nat) (d:Option Nat) (v:SV) (k:Env→Option R):Option R :=
 match d with
 | none=>k r
 | some t=>bif Nat.blt t N && !(mem t r.rt) then k { r with tm:=(t,v) :: del t r.tm } else none
def Env.new (r:Env) (n:Nat) (o:Ob) (k:Env→Option R):Option R :=
 bif r.fresh n && !(mem n r.rn)&&Nat.blt n parBase then k { r with ob:=(n,o) :: r.ob } else none
def Env.upd (r:Env) (n:Nat) (o:Ob) (k:Env→Option R):Option R :=
 bif !(mem n r.rn) then k { r with ob:=(n,o) :: del n r.ob } else none
def Env.drop (r:Env) (n:Nat) (k:Env→Option R):Option R :=
 bif !(mem n r.rn) then k { r with ob:=del n r.ob } else none
def CV.frz (n:Nat) (e:Ty) (xs:List e.den):CV→CV
 | .sl m=>bif Nat.beq m n then .imm e xs else .sl m
 | c=>c
def TV.frz (n:Nat) (e:Ty) (xs:List e.den):TV→TV
 | .one c=>.one (c.frz n e xs)
 | .agg cs=>.agg (cs.map (·.frz n e xs))
def SV.frz (n:Nat) (e:Ty) (xs:List e.den):SV→SV
 | .t v=>.t (v.frz n e xs)
 | .tup vs=>.tup (vs.map (·.frz n e xs))
def Ob.frz (n:Nat) (e:Ty) (xs:List e.den):Ob→Ob
 | .row e' ys=>.row e' ys
 | .box cs=>.box (cs.map (·.frz n e xs))
def mapV {α β:Type} (f:α→β):List (Nat×α)→List (Nat×β)
 | []=>[]
 | (k,v) :: l=>(k,f v) :: mapV f l
def clearT (n:Nat) (rt:List Nat):List (Nat×SV)→Bool
 | []=>true
 | (t,v) :: l=>(!(mem t rt) || !(mem n v.names))&&clearT n rt l
def clearO (n:Nat) (rn:List Nat):List (Nat×Ob)→Bool
 | []=>true
 | (t,v) :: l=>(!(mem t rn) || !(mem n v.names))&&clearO n rn l
def Env.freeze (r:Env) (n:Nat) (k:Env→Option R):Option R :=
 match r.obj n with
 | some (.row e xs)=>bif !(mem n r.rn)&&clearT n r.rt r.tm&&clearO n r.rn r.ob then k { r with tm:=mapV (·.frz n e xs) r.tm,ob:=mapV (·.frz n e xs) (del n r.ob) } else none
 | _=>none
def Env.freezeAll (r:Env):List Nat→(Env→Option R)→Option R
 | [],k=>k r
 | n :: ns,k=>match r.obj n with
  | some (.row _ _)=>r.freeze n fun r'=>r'.freezeAll ns k
  | _=>r.freezeAll ns k
 termination_by ns=>ns.length
def CV.frb (n:Nat) (e:Ty) (x:e.den):CV→CV
 | .ref m off=>bif Nat.beq m n then .idx e x off else .ref m off
 | c=>c
def TV.frb (n:Nat) (e:Ty) (x:e.den):TV→TV
 | .one c=>.one (c.frb n e x)
 | .agg cs=>.agg (cs.map (·.frb n e x))
def SV.frb (n:Nat) (e:Ty) (x:e.den):SV→SV
 | .t v=>.t (v.frb n e x)
 | .tup vs=>.tup (vs.map (·.frb n e x))
def Ob.frb (n:Nat) (e:Ty) (x:e.den):Ob→Ob
 | .row e' ys=>.row e' ys
 | .box cs=>.box (cs.map (·.frb n e x))
def Env.freezeBox (r:Env) (n:Nat) (e:Ty) (k:Env→Option R):Option R :=
 match r.obj n with
 | some (.box cs)=>match ofCells (fun _=>none) e cs with
  | some (x,[])=>bif !(mem n r.rn)&&clearT n r.rt r.tm&&clearO n r.rn r.ob then k { r with tm:=mapV (·.frb n e x) r.tm,ob:=mapV (·.frb n e x) (del n r.ob) } else none
  | _=>none
 | _=>none
def Env.freezeBoxes (r:Env):List (Nat×Ty)→(Env→Option R)→Option R
 | [],k=>k r
 | (n,e) :: l,k=>r.freezeBox n e fun r'=>r'.freezeBoxes l k
def ofVal:Value→CV
 | .int k n=>.int k n
 | .bool b=>.bool b
 | .string s=>.str s.data.toList
 | v=>.val v
def ofValue:Value→SV
 | .agg cs=>.agg (cs.toList.map ofVal)
 | .tuple vs=>match vs.toList with
  | []=>undefV
  | _=>.c (.val (.tuple vs))
 | v=>.c (ofVal v)
def intOp (op:BinOp) (k:IntKind) (a b:Int) (h:CV→Option R):Option R :=
 match op with
 | .add=>h (.int k (k.wrap (a+b)))
 | .sub=>h (.int k (k.wrap (a-b)))
 | .mul=>h (.int k (k.wrap (a*b)))
 | .quo=>grd (!decide (b=0)) (h (.int k (k.wrap (a.tdiv b))))
 | .rem=>grd (!decide (b=0)) (h (.int k (a.tmod b)))
 | .and=>h (.int k (k.wrap (BitVec.ofInt k.bits a &&& BitVec.ofInt k.bits b).toNat))
 | .or=>h (.int k (k.wrap (BitVec.ofInt k.bits a ||| BitVec.ofInt k.bits b).toNat))
 | .xor=>h (.int k (k.wrap (BitVec.ofInt k.bits a ^^^ BitVec.ofInt k.bits b).toNat))
 | .eql=>h (.bool (decide (a=b)))
 | .neq=>h (.bool (!decide (a=b)))
 | .lss=>h (.bool (decide (a<b)))
 | .leq=>h (.bool (decide (a≤b)))
 | .gtr=>h (.bool (decide (b<a)))
 | .geq=>h (.bool (decide (b≤a)))
 | _=>none
def shOp (op:BinOp) (k:IntKind) (a b:Int) (h:CV→Option R):Option R :=
 match op with
 | .shl=>grd (decide (0≤b)) (h (.int k (k.wrap (a*2 ^ (min b.toNat k.bits)))))
 | .shr=>grd (decide (0≤b)) (h (.int k (a.fdiv (2 ^ (min b.toNat k.bits)))))
 | _=>none
def bless:Bs→Bs→Bool:=Op.bytesLess
def strOp (op:BinOp) (a b:Bs) (h:CV→Option R):Option R :=
 match op with
 | .add=>grd (decide (a.length+b.length≤9223372036854775807)) (h (.str (a++b)))
 | .eql=>h (.bool (a==b))
 | .neq=>h (.bool (!(a==b)))
 | .lss=>h (.bool (bless a b))
 | .leq=>h (.bool (bless a b||a==b))
 | .gtr=>h (.bool (!(bless a b||a==b)))
 | .geq=>h (.bool (!bless a b))
 | _=>none
def shCV (op:BinOp) (x y:CV) (h:CV→Option R):Option R :=
 match x,y with
 | .int k a,.int _ b=>shOp op k a b h
 | _,_=>none
def boolOp (op:BinOp) (a b:Bool) (h:CV→Option R):Option R :=
 match op with
 | .eql=>h (.bool (a==b))
 | .neq=>h (.bool (!(a==b)))
 | _=>none
def arCV (op:BinOp) (x y:CV) (h:CV→Option R):Option R :=
 match x,y with
 | .int k a,.int k' b=>bif decide (k=k') then intOp op k a b h else none
 | .str a,.str b=>strOp op a b h
 | .bool a,.bool b=>boolOp op a b h
 | _,_=>none
def binCV (op:BinOp) (x y:CV) (h:CV→Option R):Option R :=
 match op with
 | .shl=>shCV .shl x y h
 | .shr=>shCV .shr x y h
 | op=>arCV op x y h
def bt (s:Bs) (i:Int):Int:=((s.getD i.toNat 0).toNat:Int)
def bytesOf (s:Bs):List Int:=s.map fun c=>(c.toNat:Int)
def strOf (l:List Int):Bs:=l.map fun n=>UInt8.ofNat n.toNat
structure Sig where
 ps:List (Ty×Nat)   -- 0: by value;1: a struct variable by its address,and what it holds behind the call;2: a row that the function writes;3: a struct by value,whose one list is written
 rs:List (Ty×Nat)  -- 0: as it is;1: rows of its own;2: the address of a struct variable of its own
def prodTy:List Ty→Ty
 | []=>.unit
 | t :: l=>.pair t (prodTy l)
def pTy (p:Ty×Nat):Ty:=match p.2 with
 | 2=>.lst p.1
 | _=>p.1
def Sig.inTy (s:Sig):Ty:=prodTy (s.ps.map pTy)
def lists:Ty→Nat
 | .pair a b=>lists a+lists b
 | .lst _=>1
 | _=>0
def lstE:Ty→Ty
 | .pair a b=>bif Nat.beq (lists a) 0 then lstE b else lstE a
 | .lst e=>e
 | _=>.unit
def ioTy (p:Ty×Nat):Ty:=match p.2 with
 | 2=>.lst p.1
 | 3=>.lst (lstE p.1)
 | _=>p.1
def ioTys:List (Ty×Nat)→List Ty
 | []=>[]
 | (t,0) :: l=>ioTys l
 | p :: l=>ioTy p :: ioTys l
def Sig.outTy (s:Sig):Ty:=prodTy (s.rs.map (·.1)++ioTys s.ps)
end Go.VM
namespace Go.VM
open Go.RowKit
inductive LV where
 | tmp (t:Nat) (τ:Ty) (own:Bool)
 | box (n:Nat) (τ:Ty) (own:Bool)
 | row (n:Nat) (e:Ty)
structure Ent where
 sg:Sig
 ext:Option (sg.inTy.den→Option sg.outTy.den)
 fn:Func
 hints:List (Nat×List Nat×List LV)
instance:Inhabited Ent:=⟨⟨⟨[],[]⟩,none,default,[]⟩⟩
structure Ctx where
 tys:List (Nat×Ty)
 globs:List (Nat×((t:Ty)×t.den))
 ents:List (Nat×Ent)
 eqs:List (Nat×Ty):=[]
 ho:List (Nat×Nat×Ty):=[]
 fz:List (Nat×Nat):=[]
 wf:(Nat→Prop)→World→Prop:=fun _ _=>True
 wfm:∀S S' w w',(∀b,S b→S' b)→(∀b,S b→w'.heap[b]? = w.heap[b]?)→wf S w→wf S' w':=by intros;trivial
def Ctx.ent (Γ:Ctx) (g:Nat):Ent:=(look Γ.ents g).getD default
def Ctx.ty (Γ:Ctx) (t:Nat):Option Ty:=look Γ.tys t
abbrev Cal (Γ:Ctx):Type:=(g:Nat)→(Γ.ent g).sg.inTy.den→Option (Γ.ent g).sg.outTy.den
variable {R:Type} (Γ:Ctx) (N:Nat) (cal:Cal Γ)
def Env.eval (r:Env):Operand→Option SV
 | .tmp t=>r.get t
 | .const v=>some (ofValue v)
 | .global g=>match look Γ.globs g with
  | some p=>some (.c (.idx p.1 p.2 0))
  | none=>none
 | .func _=>none
def Env.evc (r:Env) (x:Operand):Option CV :=
 match r.eval Γ x with
 | some (.t (.one c))=>some c
 | _=>none
def Env.lit (r:Env) (x:Operand) (b:Bool):Env :=
 match x with
 | .tmp t=>bif mem t r.rt then r else { r with tm:=(t,SV.c (.bool b)) :: del t r.tm }
 | _=>r
def Env.rd (r:Env) (size:Nat):CV→Option (List CV)
 | .ref n off=>match r.obj n with
  | some (.box cs)=>some ((cs.drop off).take size)
  | _=>none
 | .idx t x off=>some (((toCells t x).drop off).take size)
 | .elm n e i off=>match r.obj n with
  | some (.row e' xs)=>if h:e'=e then some (((toCells e ((castL h xs).getD i e.dflt)).drop off).take size) else none
  | _=>none
 | _=>none
def setCells (cs:List CV) (off:Nat) (new:List CV):List CV:=cs.take off++new++cs.drop (off+new.length)
def asTV (t:Ty) (cs:List CV):Option TV :=
 bif t.isS then some (.agg cs) else match cs with
  | [c]=>some (.one c)
  | _=>none
def Env.wr (r:Env) (cs:List CV) (a:CV) (k:Env→Option R):Option R :=
 match a with
 | .ref n off=>match r.obj n with
  | some (.box old)=>bif Nat.ble (off+cs.length) old.length then r.upd n (.box (setCells old off cs)) k else none
  | _=>none
 | .elm n e i off=>match r.obj n with
  | some (.row e' xs) =>
   if h:e'=e then
    match ofCells (fun _=>none) e (setCells (toCells e ((castL h xs).getD i e.dflt)) off cs) with
    | some (x,[])=>grd (decide (i<xs.length)) (r.upd n (.row e ((castL h xs).set i x)) k)
    | _=>none
   else none
  | _=>none
 | _=>none
def zeroCells:Ty→List CV
 | .unit=>[]
 | .pair a b=>zeroCells a++zeroCells b
 | .int k=>[.int k 0]
 | .bool=>[.bool false]
 | .str=>[.str []]
 | .lst _=>[.val (.slice none 0 0)]
 | .opq=>[]
 | .adr _=>[]
 | .err=>[.err true]
 | .rd _=>[]
def fillC (t:Ty):List CV→List (Nat×SV)→Option (List CV)
 | cs,[]=>some cs
 | cs,(i,v) :: l=>match t.field i,v with
  | some (off,f),.t w=>bif Nat.beq (cellsOf w).length f.size&&Nat.ble (off+f.size) cs.length&&okCs (cellsOf w) then fillC t (setCells cs off (cellsOf w)) l else none
  | _,_=>none
def elems (e:Ty):Nat→List (Nat×SV)→Option (List e.den)
 | _,[]=>some []
 | i,(j,v) :: l=>match v with
  | .t w=>bif Nat.beq i j then match denTV (fun _=>none) e w with
   | some x=>match elems e (i+1) l with
    | some xs=>some (x :: xs)
    | none=>none
   | none=>none
   else none
  | _=>none
def evParts (r:Env):List (Nat×Operand)→Option (List (Nat×SV))
 | []=>some []
 | (i,x) :: l=>match r.eval Γ x with
  | some v=>match evParts r l with
   | some vs=>some ((i,v) :: vs)
   | none=>none
  | none=>none
def pnames:List (Nat×SV)→List Nat
 | []=>[]
 | (_,v) :: l=>v.names++pnames l
def bound (lo hi:Option CV) (len:Nat) (k:Nat→Nat→Option R):Option R :=
 match hi with
 | none=>match lo with
  | none=>k 0 len
  | some (.int _ l)=>grd (decide (0≤l)) (grd (decide (l≤(len:Int))) (k l.toNat len))
  | _=>none
 | some (.int _ h)=>grd (decide (0≤h)) (grd (decide (h≤(len:Int))) (match lo with
  | none=>k 0 h.toNat
  | some (.int _ l)=>grd (decide (0≤l)) (grd (decide (l≤h)) (k l.toNat h.toNat))
  | _=>none))
 | _=>none
def evOpt (r:Env):Option Operand→Option (Option CV)
 | none=>some none
 | some x=>match r.evc Γ x with
  | some c=>some (some c)
  | none=>none
def Env.lst (r:Env) (e:Ty) (c:CV):Option (List e.den):=listOf r.obj e c
def appBound:Nat:=68719476736
def okElem (e:Ty):Bool:=Nat.blt 0 e.size
def ownC (ob:Nat→Option Ob):(t:Ty)→List CV→Option (t.den×List Nat×List CV)
 | .pair a b,cs=>match ownC ob a cs with
  | none=>none
  | some p=>match ownC ob b p.2.2 with
   | none=>none
   | some q=>some ((p.1,q.1),p.2.1++q.2.1,q.2.2)
 | .lst e,cs=>match cs with
  | c :: cs=>match c with
   | .sl n=>match ob n with
    | some (.row e' xs)=>if h:e'=e then some (castL h xs,[n],cs) else none
    | _=>none
   | .val v=>bif isNil v&&okElem e then some ([],[],cs) else none
   | _=>none
  | []=>none
 | t,cs=>match ofCells (fun _=>none) t cs with
  | some p=>some (p.1,[],p.2)
  | none=>none
def ioBox (v:SV) (l:Option (List Nat)):Option (List Nat) :=
 match v with
 | .t (.one (.ref n 0))=>match l with
  | some l=>bif mem n l then none else some (n :: l)
  | none=>none
 | _=>none
def ioRow (v:SV) (l:Option (List Nat)):Option (List Nat) :=
 match v with
 | .t (.one (.sl n))=>match l with
  | some l=>bif mem n l then none else some (n :: l)
  | none=>none
 | _=>none
def stName:SV→Option Nat
 | .t (.agg cs)=>match cnames cs with
  | [n]=>some n
  | _=>none
 | _=>none
def ioSt (v:SV) (l:Option (List Nat)):Option (List Nat) :=
 match stName v,l with
 | some n,some l=>bif mem n l then none else some (n :: l)
 | _,_=>none
def ioNames:List (Ty×Nat)→List SV→Option (List Nat)
 | [],[]=>some []
 | (_,0) :: ps,_ :: vs=>ioNames ps vs
 | (_,1) :: ps,v :: vs=>ioBox v (ioNames ps vs)
 | (_,2) :: ps,v :: vs=>ioRow v (ioNames ps vs)
 | (_,3) :: ps,v :: vs=>ioSt v (ioNames ps vs)
 | _,_=>none
def without (ns:List Nat) (ob:Nat→Option Ob) (n:Nat):Option Ob:=bif mem n ns then none else ob n
def hasLst:Ty→Bool
 | .pair a b=>hasLst a||hasLst b
 | .lst _=>true
 | .adr _=>true
 | .rd _=>true
 | _=>false
def nestLst:Ty→Bool
 | .pair a b=>nestLst a||nestLst b
 | .lst e=>hasLst e
 | .adr _=>true
 | .rd _=>true
 | _=>false
def hasOpq:Ty→Bool
 | .pair a b=>hasOpq a||hasOpq b
 | .lst e=>hasOpq e
 | .opq=>true
 | .adr t=>hasOpq t
 | .rd e=>hasOpq e
 | _=>false
def tokCells (ob:Nat→Option Ob):(t:Ty)→List CV→Nat→Option (t.den×List CV)
 | .pair a b,cs,m=>match tokCells ob a cs m with
  | none=>none
  | some p=>match tokCells ob b p.2 (m+a.size) with
   | none=>none
   | some q=>some ((p.1,q.1),q.2)
 | .opq,cs,m=>match cs with
  | c :: cs=>bif okC c then some (m,cs) else none
  | []=>none
 | .lst e,cs,_=>bif hasOpq e then none else ofCells ob (.lst e) cs
 | .adr e,cs,_=>bif hasOpq e then none else ofCells ob (.adr e) cs
 | .rd e,cs,_=>bif hasOpq e then none else ofCells ob (.rd e) cs
 | t,cs,_=>ofCells ob t cs
def argVal (ob':Nat→Option Ob) (t:Ty):SV→Option t.den
 | .t w=>denTV ob' t w
 | .tup _=>none
def argBox (ob ob':Nat→Option Ob) (t:Ty):SV→Option t.den
 | .t (.one (.ref n _))=>match ob n with
  | some (.box cs)=>match tokCells ob' t cs 0 with
   | some (x,[])=>some x
   | _=>none
  | _=>none
 | _=>none
def argRow (ob:Nat→Option Ob) (e:Ty):SV→Option (List e.den)
 | .t (.one (.sl n))=>listOf ob e (.sl n)
 | _=>none
def argSt (ob:Nat→Option Ob) (t:Ty):SV→Option t.den
 | .t (.agg cs)=>match ownC ob t cs with
  | some (x,[_],[])=>bif Nat.beq (lists t) 1 then some x else none
  | _=>none
 | _=>none
def argIn (ob ob':Nat→Option Ob):(p:Ty×Nat)→SV→Option (pTy p).den
 | (t,0),v=>argVal ob' t v
 | (t,1),v=>argBox ob ob' t v
 | (e,2),v=>argRow ob e v
 | (t,3),v=>argSt ob t v
 | (_,_+4),_=>none
def argsIn (ob ob':Nat→Option Ob):(ps:List (Ty×Nat))→List SV→Option (prodTy (ps.map pTy)).den
 | [],[]=>some ()
 | p :: ps,v :: vs=>match argIn ob ob' p v with
  | some x=>match argsIn ob ob' ps vs with
   | some xs=>some (x,xs)
   | none=>none
  | none=>none
 | _,_=>none
def ownCells:(t:Ty)→t.den→Nat→List CV×List (Nat×Ob)
 | .unit,_,_=>([],[])
 | .pair a b,x,m =>
  let p:=ownCells a x.1 m
  let q:=ownCells b x.2 (m+p.2.length)
  (p.1++q.1,p.2++q.2)
 | .lst e,xs,m=>([.sl m],[(m,.row e xs)])
 | t,x,_=>(toCells t x,[])
def mkTV (t:Ty) (cs:List CV):TV :=
 match t with
 | .unit=>.agg cs
 | .pair _ _=>.agg cs
 | _=>match cs with
  | [c]=>.one c
  | _=>.agg cs
def resC:Nat→(t:Ty)→t.den→Nat→List CV×List (Nat×Ob)
 | 0,t,x,_=>(toCells t x,[])
 | 1,t,x,m=>ownCells t x m
 | _+2,t,x,m=>([.ref m 0],[(m,.box (toCells t x))])
def oneTV:List CV→TV
 | [c]=>.one c
 | cs=>.agg cs
def resM:Nat→Ty→List CV→TV
 | _+2,_,cs=>oneTV cs
 | _,t,cs=>mkTV t cs
def resTV:(rs:List (Ty×Nat))→(l:List Ty)→(prodTy (rs.map (·.1)++l)).den→Nat→List TV×List (Nat×Ob)×(prodTy l).den
 | [],_,x,_=>([],[],x)
 | (t,own) :: rs,l,x,m =>
  let p:=resC own t x.1 m
  let q:=resTV rs l x.2 (m+p.2.length)
  (resM own t p.1 :: q.1,p.2++q.2.1,q.2.2)
def oneOf:List TV→SV
 | [v]=>.t v
 | vs=>.tup vs
def Env.news (r:Env):List (Nat×Ob)→(Env→Option R)→Option R
 | [],k=>k r
 | (n,o) :: l,k=>r.new n o fun r'=>r'.news l k
def backCells (old:List CV):(t:Ty)→t.den→Nat→(List CV→Option R)→Option R
 | .pair a b,x,m,k=>backCells old a x.1 m fun p=>backCells old b x.2 (m+a.size) fun q=>k (p++q)
 | .opq,n,m,k=>match old.drop m with
  | c :: _=>bif okC c then grd (decide (n=m)) (k [c]) else none
  | []=>none
 | .lst e,x,_,k=>bif hasOpq e then none else k (toCells (.lst e) x)
 | .adr e,x,_,k=>bif hasOpq e then none else k (toCells (.adr e) x)
 | .rd e,x,_,k=>bif hasOpq e then none else k (toCells (.rd e) x)
 | t,x,_,k=>k (toCells t x)
def Env.back (r:Env):(ps:List (Ty×Nat))→List SV→(prodTy (ioTys ps)).den→(Env→Option R)→Option R
 | [],[],_,k=>k r
 | (_,0) :: ps,_ :: vs,x,k=>r.back ps vs x k
 | (t,1) :: ps,v :: vs,x,k=>match v with
  | .t (.one (.ref n _))=>match r.obj n with
   | some (.box old)=>backCells old t x.1 0 fun cs=>r.upd n (.box cs) fun r'=>r'.back ps vs x.2 k
   | _=>none
  | _=>none
 | (e,2) :: ps,v :: vs,x,k=>match v with
  | .t (.one (.sl n))=>r.upd n (.row e x.1) fun r'=>r'.back ps vs x.2 k
  | _=>none
 | (t,3) :: ps,v :: vs,x,k=>match stName v with
  | some n=>r.upd n (.row (lstE t) x.1) fun r'=>r'.back ps vs x.2 k
  | none=>none
 | _,_,_,_=>none
def shareOne:Nat→Ty→Bool
 | 1,t=>nestLst t
 | _,t=>hasLst t
def shares:List (Ty×Nat)→Bool
 | []=>false
 | (t,own) :: l=>shareOne own t||shares l
def ioShares:List (Ty×Nat)→Bool
 | []=>false
 | (_,0) :: l=>ioShares l
 | (t,3) :: l=>hasLst (lstE t)||ioShares l
 | (t,_) :: l=>hasLst t||ioShares l
def tokB:List (Ty×Nat)→Nat
 | []=>0
 | (t,1) :: l=>(bif hasOpq t then 1 else 0)+tokB l
 | (t,_) :: l=>(bif hasOpq t then 2 else 0)+tokB l
def resTok:List (Ty×Nat)→Bool
 | []=>true
 | (t,_) :: l=>!hasOpq t&&resTok l
def Sig.ok (s:Sig):Bool:=Nat.ble (tokB s.ps) 1&&resTok s.rs
def evArgs (r:Env):List Operand→Option (List SV)
 | []=>some []
 | x :: l=>match r.eval Γ x with
  | some v=>match evArgs r l with
   | some vs=>some (v :: vs)
   | none=>none
  | none=>none
def valNames:List (Ty×Nat)→List SV→List Nat
 | (_,0) :: ps,v :: vs=>v.names++valNames ps vs
 | _ :: ps,_ :: vs=>valNames ps vs
 | _,_=>[]
def Env.callW (r:Env) (d:Option Nat) (g:Nat) (ob':Nat→Option Ob) (vs:List SV) (k:Env→Option R):Option R :=
 match argsIn r.obj ob' (Γ.ent g).sg.ps vs with
 | none=>none
 | some x=>(cal g x).bind fun y =>
  bif Nat.ble (nm (d.getD 0) 1+(resTV (Γ.ent g).sg.rs (ioTys (Γ.ent g).sg.ps) y (nm (d.getD 0) 1)).2.1.length) parBase then
   r.back (Γ.ent g).sg.ps vs (resTV (Γ.ent g).sg.rs (ioTys (Γ.ent g).sg.ps) y (nm (d.getD 0) 1)).2.2 fun r =>
    r.news (resTV (Γ.ent g).sg.rs (ioTys (Γ.ent g).sg.ps) y (nm (d.getD 0) 1)).2.1 fun r =>
     r.put N d (oneOf (resTV (Γ.ent g).sg.rs (ioTys (Γ.ent g).sg.ps) y (nm (d.getD 0) 1)).1) k
  else none
def Env.call (r:Env) (d:Option Nat) (g:Nat) (xs:List Operand) (k:Env→Option R):Option R :=
 bif !(Γ.ent g).sg.ok then none else
 match evArgs Γ r xs with
 | none=>none
 | some vs=>bif shares (Γ.ent g).sg.rs||ioShares (Γ.ent g).sg.ps then
   r.freezeAll (valNames (Γ.ent g).sg.ps vs) fun r=>match evArgs Γ r xs with
    | some vs=>match ioNames (Γ.ent g).sg.ps vs with
     | some _=>r.callW Γ N cal d g (fun _=>none) vs k
     | none=>none
    | none=>none
   else match ioNames (Γ.ent g).sg.ps vs with
    | some io=>r.callW Γ N cal d g (without io r.obj) vs k
    | none=>none
def capOne:(p:Ty×Nat)→SV→Option (pTy p).den
 | (.adr τ,0),.t (.one c)=>adrOf τ c
 | _,_=>none
def capIn:(ps:List (Ty×Nat))→List SV→Option (prodTy (ps.map pTy)).den
 | [],[]=>some ()
 | p :: ps,v :: vs=>match capOne p v with
  | some x=>match capIn ps vs with
   | some xs=>some (x,xs)
   | none=>none
  | none=>none
 | _,_=>none
def toFrz:List (Ty×Nat)→List SV→List (Nat×Ty)
 | (.adr τ,_) :: ps,.t (.one (.ref n _)) :: vs=>(n,τ) :: toFrz ps vs
 | _ :: ps,_ :: vs=>toFrz ps vs
 | _,_=>[]
def stepLit (r:Env) (d:Option Nat) (h:Nat) (caps:List Operand) (k:Env→Option R):Option R :=
 match evArgs Γ r caps with
 | some vs=>r.freezeBoxes (toFrz ((Γ.ent h).sg.ps.drop ((Γ.ent h).sg.ps.length-caps.length)) vs) fun r=>match evArgs Γ r caps with
  | some vs=>match capIn ((Γ.ent h).sg.ps.drop ((Γ.ent h).sg.ps.length-caps.length)) vs with
   | some x=>r.put N d (.c (.clo h false .unit () (prodTy (((Γ.ent h).sg.ps.drop ((Γ.ent h).sg.ps.length-caps.length)).map pTy)) x)) k
   | none=>none
  | none=>none
 | none=>none
def stepBound (r:Env) (d:Option Nat) (h:Nat) (y:Operand) (k:Env→Option R):Option R :=
 match (Γ.ent h).sg.ps,r.eval Γ y with
 | (f,0) :: _,some (.t (.agg cs))=>match denTV (fun _=>none) f (.agg cs) with
  | some v=>r.put N d (.c (.clo h true f v .unit ())) k
  | none=>none
 | _,_=>none
def stepFunc (r:Env) (d:Option Nat) (fn:Fn) (first caps:List Operand) (k:Env→Option R):Option R :=
 match fn,first,caps with
 | .func h,[],caps=>stepLit Γ N r d h caps k
 | .func h,[y],[]=>stepBound Γ N r d h y k
 | _,_,_=>none
def lstTy (t:Option Ty):Option Ty:=match t with
 | some (.lst e)=>some e
 | _=>none
def isLst (t:Option Ty) (e:Ty):Bool:=match t with
 | some (.lst e')=>decide (e'=e)
 | _=>false
def boolTy (t:Nat) (a b:CV):Bool :=
 match a,b with
 | .bool _,.bool _=>match Γ.ty t with
  | some .bool=>true
  | _=>false
 | _,_=>true
def eqC:Ty→List CV→List CV→Option Bool
 | .int k,[.int k1 a],[.int k2 b]=>bif decide (k1=k)&&decide (k2=k) then some (a==b) else none
 | .str,[.str a],[.str b]=>some (a==b)
 | .bool,[.bool a],[.bool b]=>some (a==b)
 | .unit,[],[]=>some true
 | .pair a b,cs,ds=>match eqC a (cs.take a.size) (ds.take a.size) with
  | some p=>match eqC b (cs.drop a.size) (ds.drop a.size) with
   | some q=>some (p&&q)
   | none=>none
  | none=>none
 | _,_,_=>none
def stepEq (r:Env) (d:Option Nat) (op:BinOp) (t:Nat) (cs ds:List CV) (k:Env→Option R):Option R :=
 match look Γ.eqs t with
 | some τ=>bif τ.isS then match eqC τ cs ds with
  | some b=>match op with
   | .eql=>r.put N d (.c (.bool b)) k
   | .neq=>r.put N d (.c (.bool (!b))) k
   | _=>none
  | none=>none else none
 | none=>none
def nilCmp:CV→CV→Option Nat
 | .imm _ xs,.val v=>bif isNil v then some xs.length else none
 | _,_=>none
def isSlT (t:Nat):Bool:=(lstTy (Γ.ty t)).isSome
def errCmp:CV→CV→Option Bool
 | .err b,.val v=>bif isNilI v then some b else none
 | _,_=>none
def isErT (t:Nat):Bool:=match Γ.ty t with
 | some .err=>true
 | _=>false
def stepErr (r:Env) (d:Option Nat) (op:BinOp) (b:Bool) (y:Operand) (k:Env→Option R):Option R :=
 match y,op with
 | .const _,.eql=>r.put N d (.c (.bool b)) k
 | .const _,.neq=>r.put N d (.c (.bool (!b))) k
 | _,_=>none
def stepNil (r:Env) (d:Option Nat) (op:BinOp) (n:Nat) (k:Env→Option R):Option R :=
 match op with
 | .eql=>grd (decide (0<n)) (r.put N d (.c (.bool false)) k)
 | .neq=>grd (decide (0<n)) (r.put N d (.c (.bool true)) k)
 | _=>none
def stepBin (r:Env) (d:Option Nat) (op:BinOp) (t:Nat) (x y:Operand) (k:Env→Option R):Option R :=
 match r.eval Γ x,r.eval Γ y with
 | some (.t (.one a)),some (.t (.one b))=>match nilCmp a b with
  | some n=>bif isSlT Γ t then stepNil N r d op n k else none
  | none=>match errCmp a b with
   | some c=>bif isErT Γ t then stepErr N r d op c y k else none
   | none=>bif boolTy Γ t a b then binCV op a b (fun c=>r.put N d (.c c) k) else none
 | some (.t (.agg cs)),some (.t (.agg ds))=>stepEq Γ N r d op t cs ds k
 | _,_=>none
def stepPick (r:Env) (d:Option Nat) (c x y:Operand) (k:Env→Option R):Option R :=
 match r.evc Γ c with
 | some (.bool b)=>match r.eval Γ x,r.eval Γ y with
  | some u,some v=>match u,v with
   | .t (.one (.bool p)),.t (.one (.bool q))=>r.put N d (.c (.bool (bif b then p else q))) k
   | u,v=>bif b then r.put N d u k else r.put N d v k
  | _,_=>none
 | _=>none
def srcTy (t:Option Ty) (e:Ty):Bool:=match t with
 | some .str=>decide (e=.int .u8)
 | some (.lst e')=>decide (e'=e)
 | _=>false
def srcOf (r:Env) (e:Ty) (t:Option Ty) (b:CV):Option (List e.den) :=
 match t,b with
 | some .str,.str l=>if h:Ty.int .u8=e then some (castL h (bytesOf l)) else none
 | some (.lst _),b=>listOf r.obj e b
 | _,_=>none
def stepAppend (r:Env) (d:Option Nat) (ts us:Option Nat) (x y:Operand) (k:Env→Option R):Option R :=
 match lstTy (ts.bind Γ.ty),r.evc Γ x,r.evc Γ y with
 | some e,some a,some b=>bif !(srcTy (us.bind Γ.ty) e&&Nat.beq (zeroCells e).length e.size) then none else match srcOf r e (us.bind Γ.ty) b with
  | none=>none
  | some ys=>match a with
   | .sl n=>bif mem n b.names then none else match r.obj n with
    | some (.row e' xs)=>if h:e'=e then
      grd (decide (xs.length+ys.length≤appBound)) (r.drop n fun r=>r.new (nm (d.getD 0) 1) (.row e (castL h xs++ys)) fun r=>r.put N d (.c (.sl (nm (d.getD 0) 1))) k)
     else none
    | _=>none
   | .val v=>bif isNil v&&okElem e then
     grd (decide (ys.length≤appBound)) (r.new (nm (d.getD 0) 1) (.row e ys) fun r=>r.put N d (.c (.sl (nm (d.getD 0) 1))) k)
    else none
   | _=>none
 | _,_,_=>none
def stepSlice (r:Env) (d:Option Nat) (t:Nat) (x:Operand) (lo hi:Option Operand) (k:Env→Option R):Option R :=
 match r.evc Γ x,evOpt Γ r lo,evOpt Γ r hi with
 | some c,some lo,some hi=>match c with
  | .str l=>match Γ.ty t with
   | some .str=>bound lo hi l.length fun a b=>r.put N d (.c (.str ((l.take b).drop a))) k
   | _=>none
  | .imm e xs=>bif !(isLst (Γ.ty t) e) then none else bound lo hi xs.length fun a b=>r.put N d (.c (.imm e ((xs.take b).drop a))) k
  | .sl n=>match r.obj n with
   | some (.row e xs)=>bif !(isLst (Γ.ty t) e) then none else bound lo hi xs.length fun a b=>r.drop n fun r=>r.new (nm (d.getD 0) 1) (.row e ((xs.take b).drop a)) fun r=>r.put N d (.c (.sl (nm (d.getD 0) 1))) k
   | _=>none
  | _=>none
 | _,_,_=>none
def stepSlice3 (r:Env) (d:Option Nat) (t:Nat) (x h m:Operand) (k:Env→Option R):Option R :=
 match r.evc Γ x,r.evc Γ h,r.evc Γ m with
 | some c,some (.int _ h),some (.int _ m)=>match c with
  | .imm e xs=>bif !(isLst (Γ.ty t) e) then none else grd (decide (h=(xs.length:Int))) (grd (decide (m=(xs.length:Int))) (r.put N d (.c (.imm e xs)) k))
  | .sl n=>match r.obj n with
   | some (.row e xs)=>bif !(isLst (Γ.ty t) e) then none else grd (decide (h=(xs.length:Int))) (grd (decide (m=(xs.length:Int))) (r.drop n fun r=>r.new (nm (d.getD 0) 1) (.row e xs) fun r=>r.put N d (.c (.sl (nm (d.getD 0) 1))) k))
   | _=>none
  | _=>none
 | _,_,_=>none
def stepConv (r:Env) (d:Option Nat) (src dst:Nat) (x:Operand) (k:Env→Option R):Option R :=
 match Γ.ty src,Γ.ty dst,r.evc Γ x with
 | some (.int _),some (.int q),some (.int _ n)=>r.put N d (.c (.int q (q.wrap n))) k
 | some .str,some .str,some (.str l)=>r.put N d (.c (.str l)) k
 | some .str,some (.lst (.int .u8)),some (.str l)=>r.new (nm (d.getD 0) 1) (.row (.int .u8) (bytesOf l)) fun r=>r.put N d (.c (.sl (nm (d.getD 0) 1))) k
 | some (.lst (.int .u8)),some .str,some c=>match listOf r.obj (.int .u8) c with
  | some xs=>r.put N d (.c (.str (strOf xs))) k
  | none=>none
 | _,_,_=>none
def stepLenL (r:Env) (d:Option Nat) (c:CV) (k:Env→Option R):Option R :=
 match c with
 | .imm _ xs=>r.put N d (.c (.int .i64 xs.length)) k
 | .sl n=>match r.obj n with
  | some (.row _ xs)=>r.put N d (.c (.int .i64 xs.length)) k
  | _=>none
 | .val v=>bif isNil v then r.put N d (.c (.int .i64 0)) k else none
 | _=>none
def stepLen (r:Env) (d:Option Nat) (t:Nat) (x:Operand) (k:Env→Option R):Option R :=
 match r.evc Γ x with
 | some (.str l)=>match Γ.ty t with
  | some .str=>r.put N d (.c (.int .i64 l.length)) k
  | _=>none
 | some c=>bif (lstTy (Γ.ty t)).isSome then stepLenL N r d c k else none
 | none=>none
def stepIdx (r:Env) (d:Option Nat) (t:Nat) (x i:Operand) (k:Env→Option R):Option R :=
 match r.evc Γ x,r.evc Γ i with
 | some c,some (.int _ i)=>match c with
  | .imm e xs=>bif !(isLst (Γ.ty t) e) then none else grd (decide (0≤i)) (grd (decide (i<(xs.length:Int))) (r.put N d (.c (.idx e (xs.getD i.toNat e.dflt) 0)) k))
  | .sl n=>match r.obj n with
   | some (.row e xs)=>bif !(isLst (Γ.ty t) e) then none else grd (decide (0≤i)) (grd (decide (i<(xs.length:Int))) (r.put N d (.c (.elm n e i.toNat 0)) k))
   | _=>none
  | _=>none
 | _,_=>none
def idxM {α:Type} (p:α→Option Bool):List α→Option (Option Nat)
 | []=>some none
 | z :: l=>match p z with
  | none=>none
  | some true=>some (some 0)
  | some false=>match idxM p l with
   | none=>none
   | some none=>some none
   | some (some i)=>some (some (i+1))
def allAdr:List (Ty×Nat)→Bool
 | []=>true
 | (.adr _,0) :: l=>allAdr l
 | _=>false
def okLit (s:Sig):Bool:=match s.ps,s.rs with
 | (_,0) :: l,[(.bool,m)]=>allAdr l&&Nat.ble m 1&&s.ok
 | _,_=>false
def okBnd (s:Sig):Bool:=match s.ps,s.rs with
 | [(_,0),(_,0)],[(.bool,m)]=>Nat.ble m 1&&s.ok
 | _,_=>false
def predLit (h:Nat) (τ:Ty) (x:τ.den) (e:Ty) (z:e.den):Option Bool :=
 if hI:Ty.pair e τ=(Γ.ent h).sg.inTy then if hO:(Γ.ent h).sg.outTy=.pair .bool .unit then
  (cal h (castD hI (z,x))).map fun o=>(castD hO o).1
 else none else none
def predBnd (h:Nat) (f:Ty) (y:f.den) (e:Ty) (z:e.den):Option Bool :=
 if hI:Ty.pair f (.pair e .unit)=(Γ.ent h).sg.inTy then if hO:(Γ.ent h).sg.outTy=.pair .bool .unit then
  (cal h (castD hI (y,z,()))).map fun o=>(castD hO o).1
 else none else none
def idxV:Option Nat→Int
 | none=>-1
 | some i=>i
def hoC (kd:Nat) (i:Option Nat):CV:=match kd with
 | 0=>.int .i64 (idxV i)
 | _=>.bool i.isSome
def hoV (kd:Nat) (i:Option Nat):Value:=match kd with
 | 0=>.int .i64 (idxV i)
 | _=>.bool i.isSome
def isPrg (h:Nat):Bool:=match look Γ.ents h with
 | some e=>e.ext.isNone&&e.fn.body.isSome
 | none=>false
def foV (r:Env):Operand→Option CV
 | .func h=>some (.clo h false .unit () .unit ())
 | x=>r.evc Γ x
def keepM {α:Type} (p:α→Option Bool):List α→Option (List α)
 | []=>some []
 | z :: l=>match p z with
  | none=>none
  | some b=>match keepM p l with
   | none=>none
   | some ys=>some (bif b then ys else z :: ys)
def insM {α:Type} (c:α→α→Option Int) (z:α):List α→Option (List α)
 | []=>some [z]
 | y :: l=>match c z y with
  | none=>none
  | some n=>bif decide (n<0) then (match insM c z l with
    | some l'=>some (y :: l')
    | none=>none) else some (z :: y :: l)
def sortM {α:Type} (c:α→α→Option Int):List α→List α→Option (List α)
 | acc,[]=>some acc.reverse
 | acc,z :: l=>match insM c z acc with
  | some acc'=>sortM c acc' l
  | none=>none
def okCmp (s:Sig):Bool:=match s.ps,s.rs with
 | (_,0) :: (_,0) :: l,[(.int .i64,m)]=>allAdr l&&Nat.ble m 1&&s.ok
 | _,_=>false
def cmpLit (h:Nat) (τ:Ty) (x:τ.den) (e:Ty) (z1 z2:e.den):Option Int :=
 if hI:Ty.pair e (.pair e τ)=(Γ.ent h).sg.inTy then if hO:(Γ.ent h).sg.outTy=.pair (.int .i64) .unit then
  (cal h (castD hI (z1,z2,x))).map fun o=>(castD hO o).1
 else none else none
def rowOut (r:Env) (d:Option Nat) (n:Nat) (e:Ty) (ys:List e.den) (k:Env→Option R):Option R :=
 r.drop n fun r=>r.new (nm (d.getD 0) 1) (.row e ys) fun r=>r.put N d (.c (.sl (nm (d.getD 0) 1))) k
def stepRow (r:Env) (d:Option Nat) (kd n:Nat) (e:Ty) (xs:List e.den) (rest:List Operand) (k:Env→Option R):Option R :=
 match kd,rest with
 | 2,[x,y]=>match r.evc Γ x,r.evc Γ y with
  | some (.int .i64 i),some (.int .i64 j)=>grd (decide (0≤i)) (grd (decide (i≤j)) (grd (decide (j≤(xs.length:Int))) (rowOut N r d n e (xs.take i.toNat++xs.drop j.toNat) k)))
  | _,_=>none
 | 3,[fo]=>match foV Γ r fo with
  | some (.clo h false _ _ τ x)=>bif okLit (Γ.ent h).sg&&isPrg Γ h then (keepM (predLit Γ cal h τ x e) xs).bind fun ys=>rowOut N r d n e ys k else none
  | _=>none
 | 4,[fo]=>match foV Γ r fo with
  | some (.clo h false _ _ τ x)=>bif okCmp (Γ.ent h).sg&&isPrg Γ h then grd (decide (xs.length≤20)) ((sortM (cmpLit Γ cal h τ x e) [] xs).bind fun ys=>r.upd n (.row e ys) fun r=>r.put N d undefV k) else none
  | _=>none
 | _,_=>none
def stepRf (r:Env) (d:Option Nat) (kd:Nat×Ty) (args:List Operand) (k:Env→Option R):Option R :=
 match args with
 | x :: rest=>match r.evc Γ x with
  | some (.sl n)=>match r.obj n with
   | some (.row e' xs)=>if h:e'=kd.2 then grd (decide (xs.length≤9223372036854775807)) (stepRow Γ N cal r d kd.1 n kd.2 (castL h xs) rest k) else none
   | _=>none
  | _=>none
 | []=>none
def stepHo (r:Env) (d:Option Nat) (kd:Nat×Ty) (args:List Operand) (k:Env→Option R):Option R :=
 bif Nat.ble 2 kd.1 then stepRf Γ N cal r d kd args k else match args with
 | [l,fo]=>match r.evc Γ l,foV Γ r fo with
  | some c,some (.clo h false _ _ τ x)=>match listOf r.obj kd.2 c with
   | some xs=>bif okLit (Γ.ent h).sg&&isPrg Γ h then grd (decide (xs.length≤9223372036854775807)) ((idxM (predLit Γ cal h τ x kd.2) xs).bind fun i=>r.put N d (.c (hoC kd.1 i)) k) else none
   | none=>none
  | some c,some (.clo h true f y .unit _)=>match listOf r.obj kd.2 c with
   | some xs=>bif okBnd (Γ.ent h).sg&&isPrg Γ h&&f.isS then grd (decide (xs.length≤9223372036854775807)) ((idxM (predBnd Γ cal h f y kd.2) xs).bind fun i=>r.put N d (.c (hoC kd.1 i)) k) else none
   | none=>none
  | _,_=>none
 | _=>none
def stepCall (r:Env) (d:Option Nat) (c:Call) (k:Env→Option R):Option R :=
 match c.callee with
 | .value (.func g)=>match look Γ.ho g with
  | some kd=>stepHo Γ N cal r d kd c.args.toList k
  | none=>r.call Γ N cal d g c.args.toList k
 | .builtin .len=>match c.args.toList,c.argTypes.toList with
  | [x],[t]=>stepLen Γ N r d t x k
  | _,_=>none
 | .builtin .append=>match c.args.toList,c.argTypes.toList with
  | [x,y],[ts,us]=>stepAppend Γ N r d (some ts) (some us) x y k
  | _,_=>none
 | .builtin .min=>match c.args.toList with
  | [x,y]=>match r.evc Γ x,r.evc Γ y with
   | some (.int q a),some (.int _ b)=>r.put N d (.c (.int q (min a b))) k
   | _,_=>none
  | _=>none
 | .builtin .max=>match c.args.toList with
  | [x,y]=>match r.evc Γ x,r.evc Γ y with
   | some (.int q a),some (.int _ b)=>r.put N d (.c (.int q (max a b))) k
   | _,_=>none
  | _=>none
 | _=>none
def step (r:Env) (o:Oper) (k:Env→Option R):Option R :=
 match o.op with
 | .move x=>match r.eval Γ x with
  | some v=>r.put N o.dst v k
  | none=>none
 | .assign x=>match r.eval Γ x with
  | some v=>r.put N o.dst v k
  | none=>none
 | .pick c x y=>stepPick Γ N r o.dst c x y k
 | .binOp op t x y _=>stepBin Γ N r o.dst op t x y k
 | .unOp op _ x=>match op,r.evc Γ x with
  | .not,some (.bool b)=>r.put N o.dst (.c (.bool (!b))) k
  | .neg,some (.int q n)=>r.put N o.dst (.c (.int q (q.wrap (0-n)))) k
  | _,_=>none
 | .convert src dst x=>stepConv Γ N r o.dst src dst x k
 | .nilCheck x=>match r.evc Γ x with
  | some (.ref n off)=>r.put N o.dst (.c (.ref n off)) k
  | some (.elm n e i off)=>r.put N o.dst (.c (.elm n e i off)) k
  | some (.idx e x off)=>r.put N o.dst (.c (.idx e x off)) k
  | _=>none
 | .alloc t=>match Γ.ty t with
  | some τ=>r.new (nm (o.dst.getD 0) 0) (.box (zeroCells τ)) fun r=>r.put N o.dst (.c (.ref (nm (o.dst.getD 0) 0) 0)) k
  | none=>none
 | .box t x=>match Γ.ty t,r.eval Γ x with
  | some τ,some (.t w)=>bif Nat.beq (cellsOf w).length τ.size&&okCs (cellsOf w) then
    r.new (nm (o.dst.getD 0) 0) (.box (cellsOf w)) fun r=>r.put N o.dst (.c (.ref (nm (o.dst.getD 0) 0) 0)) k
   else none
  | _,_=>none
 | .build t parts=>match Γ.ty t,evParts Γ r parts.toList with
  | some τ,some vs=>match fillC τ (zeroCells τ) vs with
   | some cs=>bif τ.isS then r.put N o.dst (.agg cs) k else none
   | none=>none
  | _,_=>none
 | .buildSlice t len parts=>match lstTy (Γ.ty t),evParts Γ r parts.toList with
  | some e,some vs=>bif okElem e then r.freezeAll (pnames vs) fun r=>match evParts Γ r parts.toList with
   | some vs=>match elems e 0 vs with
    | some xs=>bif Nat.beq vs.length len&&Nat.ble (len*e.size) 16777216 then r.new (nm (o.dst.getD 0) 1) (.row e xs) fun r=>r.put N o.dst (.c (.sl (nm (o.dst.getD 0) 1))) k else none
    | none=>none
   | none=>none else none
  | _,_=>none
 | .makeSlice t len cap=>match lstTy (Γ.ty t),r.evc Γ len,r.evc Γ cap with
  | some e,some (.int .i64 n),some (.int .i64 c)=>bif okElem e&&Nat.beq (zeroCells e).length e.size then
    grd (decide (0≤n)) (grd (decide (n≤c)) (grd (decide (c≤68719476736))
     (r.new (nm (o.dst.getD 0) 1) (.row e (List.replicate n.toNat e.dflt)) fun r=>r.put N o.dst (.c (.sl (nm (o.dst.getD 0) 1))) k))) else none
  | _,_,_=>none
 | .load t a=>match Γ.ty t,r.evc Γ a with
  | some τ,some p=>match r.rd τ.size p with
   | some cs=>match bif Nat.beq cs.length τ.size then asTV τ cs else none with
    | some v=>r.put N o.dst (.t v) k
    | none=>none
   | none=>none
  | _,_=>none
 | .store t a x=>match Γ.ty t,r.evc Γ a,r.eval Γ x with
  | some τ,some p,some (.t w)=>bif Nat.beq (cellsOf w).length τ.size&&okCs (cellsOf w) then
    match p with
    | .elm _ _ _ _=>r.freezeAll w.names fun r=>match r.eval Γ x with
     | some (.t w)=>bif Nat.beq (cellsOf w).length τ.size&&okCs (cellsOf w) then r.wr (cellsOf w) p fun r=>r.put N o.dst undefV k else none
     | _=>none
    | p=>r.wr (cellsOf w) p fun r=>r.put N o.dst undefV k
   else none
  | _,_,_=>none
 | .fieldAddr t x f=>match Γ.ty t,r.evc Γ x with
  | some τ,some c=>match τ.field f with
   | some (off,σ)=>bif Nat.blt 0 σ.size then match c with
    | .ref n o0=>r.put N o.dst (.c (.ref n (o0+off))) k
    | .elm n e i o0=>r.put N o.dst (.c (.elm n e i (o0+off))) k
    | .idx e x o0=>r.put N o.dst (.c (.idx e x (o0+off))) k
    | _=>none else none
   | none=>none
  | _,_=>none
 | .field t x f=>match Γ.ty t,r.eval Γ x with
  | some τ,some (.t (.agg cs))=>match τ.field f with
   | some (off,σ)=>match bif Nat.ble (off+σ.size) cs.length then asTV σ ((cs.drop off).take σ.size) else none with
    | some v=>r.put N o.dst (.t v) k
    | none=>none
   | none=>none
  | _,_=>none
 | .indexAddr t x i=>stepIdx Γ N r o.dst t x i k
 | .index t x i=>match Γ.ty t,r.evc Γ x,r.evc Γ i with
  | some .str,some (.str l),some (.int _ i)=>grd (decide (0≤i)) (grd (decide (i<(l.length:Int))) (r.put N o.dst (.c (.int .u8 (bt l i))) k))
  | _,_,_=>none
 | .slice t x lo hi none=>stepSlice Γ N r o.dst t x lo hi k
 | .slice t x none (some h) (some m)=>stepSlice3 Γ N r o.dst t x h m k
 | .extract x i=>match r.eval Γ x with
  | some (.tup vs)=>match vs.drop i with
   | v :: _=>r.put N o.dst (.t v) k
   | []=>none
  | _=>none
 | .call c=>stepCall Γ N cal r o.dst c k
 | .makeFunc fn first caps=>stepFunc Γ N r o.dst fn first.toList caps.toList k
 | _=>none
def slotOf (ops:List Oper) (j:Nat):Option Nat:=match ops.drop j with
 | o :: _=>o.dst
 | []=>none
def execOps (ops:List Oper):List Oper→Env→(Env→Option R)→Option R
 | [],r,k=>k r
 | o :: os,r,k=>match o.guard with
  | none=>step Γ N cal r o fun r=>execOps ops os r k
  | some (j,want)=>match slotOf ops j with
   | none=>none
   | some t=>match r.get t with
    | some (.t (.one (.bool b)))=>bif b
      then (match want with
       | true=>step Γ N cal (r.lit (.tmp t) true) o fun r=>execOps ops os r k
       | false=>(r.lit (.tmp t) true).put N o.dst undefV fun r=>execOps ops os r k)
      else (match want with
       | true=>(r.lit (.tmp t) false).put N o.dst undefV fun r=>execOps ops os r k
       | false=>step Γ N cal (r.lit (.tmp t) false) o fun r=>execOps ops os r k)
    | some (.tup [])=>r.put N o.dst undefV fun r=>execOps ops os r k
    | _=>none
end Go.VM
namespace Go.VM
open Go.RowKit
structure Dl where
 d:Option Nat
 v:SV
 ob:List (Nat×Ob)
def addD (δ:Dl) (r:Env):Env :=
 { r with tm:=(match δ.d with
  | some t=>(t,δ.v) :: del t r.tm
  | none=>r.tm),ob:=δ.ob++r.ob }
def envOf (b:Env):List Dl→List Bool→Env
 | δ :: ds,true :: bs=>addD δ (envOf b ds bs)
 | _ :: ds,false :: bs=>envOf b ds bs
 | _,_=>b
variable {R:Type} (Γ:Ctx) (N:Nat) (cal:Cal Γ)
def mild (o:Oper):Bool :=
 match o.op with
 | .move _=>true
 | .assign _=>true
 | .pick _ _ _=>true
 | .binOp _ _ _ _ _=>true
 | .unOp _ _ _=>true
 | .convert _ _ _=>true
 | .load _ _=>true
 | .fieldAddr _ _ _=>true
 | .indexAddr _ _ _=>true
 | .index _ _ _=>true
 | .slice _ _ _ _ none=>true
 | .nilCheck _=>true
 | .alloc _=>true
 | .extract _ _=>true
 | .buildSlice _ _ _=>true
 | .build _ _=>true
 | .makeFunc fn first caps=>(match fn,first.toList,caps.toList with
  | .func _,[_],[]=>true
  | _,_,_=>false)
 | .call c=>match c.callee with
  | .builtin .len=>true
  | .value (.func g)=>(match look Γ.ho g with
   | some kd=>!(Nat.ble 2 kd.1)
   | none=>(ioTys (Γ.ent g).sg.ps).isEmpty)
  | _=>false
 | _=>false
def noNames:List (Nat×SV)→Bool
 | []=>true
 | (_,v) :: l=>(match v.names with | []=>true | _=>false)&&noNames l
def dlOf (r:Env) (o:Oper) (r':Env):Dl :=
 { d:=o.dst,v:=(match o.dst with
  | some t=>(r'.get t).getD undefV
  | none=>undefV),ob:=r'.ob.take (r'.ob.length-r.ob.length) }
def skipD (r:Env) (o:Oper) (k:Dl→Option R):Option R:=r.put N o.dst undefV fun _=>k ⟨o.dst,undefV,[]⟩
def gstep (ops:List Oper) (r:Env) (o:Oper) (k:Dl→Option R):Option R :=
 match o.guard with
 | none=>step Γ N cal r o fun r'=>k (dlOf r o r')
 | some (j,want)=>match slotOf ops j with
  | none=>none
  | some t=>match r.get t with
   | some (.t (.one (.bool b)))=>bif b
     then (match want with
      | true=>step Γ N cal r o fun r'=>k (dlOf r o r')
      | false=>skipD N r o k)
     else (match want with
      | true=>skipD N r o k
      | false=>step Γ N cal r o fun r'=>k (dlOf r o r'))
   | some (.tup [])=>skipD N r o k
   | _=>none
def mildAt (r:Env) (o:Oper):Bool:=match o.op with
 | .buildSlice _ _ parts=>(match evParts Γ r parts.toList with
  | some vs=>noNames vs
  | none=>false)
 | .slice _ x _ _ _=>(match r.evc Γ x with
  | some (.sl _)=>false
  | _=>true)
 | .call c=>(match c.callee with
  | .value (.func g)=>(match look Γ.ho g with
   | some _=>true
   | none=>bif shares (Γ.ent g).sg.rs||ioShares (Γ.ent g).sg.ps then (match evArgs Γ r c.args.toList with
    | some vs=>(valNames (Γ.ent g).sg.ps vs).isEmpty
    | none=>false) else true)
  | _=>true)
 | _=>true
def depOn (o:Oper) (j:Nat):Bool:=o.after.toList.any fun e=>Region.binds .any e&&Nat.beq e.on j
def maskOf (o:Oper):Nat→Nat→List Bool
 | _,0=>[]
 | j,n+1=>depOn o j :: maskOf o (j+1) n
def bigDep (o:Oper) (i:Nat):Bool:=o.after.toList.all fun e=>!(Region.binds .any e)||Nat.blt e.on i
def ownN (d:Option Nat) (n:Nat):Bool:=match d with
 | some t=>Nat.beq (n / 64) t
 | none=>false
def farN (ds:List Nat) (n:Nat):Bool:=!(mem (n / 64) ds)
def okNs (ds:List Nat) (d:Option Nat):List Nat→Bool
 | []=>true
 | n :: l=>(farN ds n||ownN d n)&&okNs ds d l
def farNs (ds:List Nat):List Nat→Bool
 | []=>true
 | n :: l=>farN ds n&&farNs ds l
def ownK (d:Option Nat):List (Nat×Ob)→Bool
 | []=>true
 | (n,_) :: l=>ownN d n&&ownK d l
def okObs (ds:List Nat) (d:Option Nat):List (Nat×Ob)→Bool
 | []=>true
 | (_,o) :: l=>okNs ds d o.names&&okObs ds d l
def nodupK:List (Nat×Ob)→Bool
 | []=>true
 | (n,_) :: l=>!(mem n (l.map (·.1)))&&nodupK l
def okDl (ds:List Nat) (δ:Dl):Bool:=okNs ds δ.d δ.v.names&&ownK δ.d δ.ob&&okObs ds δ.d δ.ob&&nodupK δ.ob
def farT (ds:List Nat):List (Nat×SV)→Bool
 | []=>true
 | (_,v) :: l=>farNs ds v.names&&farT ds l
def farO (ds:List Nat):List (Nat×Ob)→Bool
 | []=>true
 | (n,o) :: l=>farN ds n&&farNs ds o.names&&farO ds l
def litAcc (t:Nat):List Dl→(List Dl→Option R)→Option R
 | [],k=>k []
 | δ :: ds,k=>match δ.d,δ.v with
  | some u,.t (.one (.bool c))=>bif Nat.beq u t then (bif c then k ({ δ with v:=.c (.bool true) } :: ds) else k ({ δ with v:=.c (.bool false) } :: ds)) else litAcc t ds fun ds=>k (δ :: ds)
  | _,_=>litAcc t ds fun ds=>k (δ :: ds)
def litG (ops:List Oper) (o:Oper) (acc:List Dl) (k:List Dl→Option R):Option R :=
 match o.guard with
 | none=>k acc
 | some (j,_)=>match slotOf ops j with
  | none=>k acc
  | some t=>litAcc t acc k
theorem litAcc_eq (t:Nat):∀(acc:List Dl) (k:List Dl→Option R),litAcc t acc k=k acc
 | [],k=>rfl
 | ⟨d,v,ob⟩ :: ds,k=>by
  unfold litAcc
  split
  ·rename_i u c h1 h2
   simp only at h2
   subst h2
   cases Nat.beq u t with
   | true=>cases c <;> rfl
   | false=>exact litAcc_eq t ds _
  ·exact litAcc_eq t ds _
theorem litG_eq (ops:List Oper) (o:Oper) (acc:List Dl) (k:List Dl→Option R):litG ops o acc k=k acc:=by
 unfold litG
 split
 ·rfl
 ·split
  ·rfl
  ·exact litAcc_eq _ _ _
def memP:Nat×Nat→List (Nat×Nat)→Bool
 | _,[]=>false
 | p,x :: l=>(Nat.beq p.1 x.1&&Nat.beq p.2 x.2)||memP p l
def fzOp (o:Oper):Bool:=match o.guard with
 | some _=>false
 | none=>match o.op,o.dst with
  | .call c,some d=>(match c.callee with
   | .value (.func g)=>memP (g,d) Γ.fz
   | _=>false)
  | _,_=>false
def frzD (b:Env) (δ:Dl):Option Dl:=match δ.d,δ.ob with
 | some d,[(m,.row e xs)]=>bif !mem d b.rt && !mem m b.rn then some ⟨some d,δ.v.frz m e xs,[]⟩ else none
 | _,_=>none
def drawGo (ops:List Oper) (ds:List Nat) (b:Env):List Oper→List Dl→(List Dl→Option R)→Option R
 | [],acc,k=>k acc
 | o :: os,acc,k=>litG ops o acc fun acc=>bif mild Γ o&&bigDep o acc.length&&mildAt Γ (envOf b acc (maskOf o 0 acc.length)) o then
   gstep Γ N cal ops (envOf b acc (maskOf o 0 acc.length)) o fun δ=>bif okDl ds δ then (bif fzOp Γ o then (match frzD b δ with
    | some ε=>bif okDl ds ε then drawGo ops ds b os (acc++[ε]) k else none
    | none=>none) else drawGo ops ds b os (acc++[δ]) k) else none
  else none
def delAll:List Nat→List (Nat×SV)→List (Nat×SV)
 | [],l=>l
 | t :: ts,l=>del t (delAll ts l)
def noneIn:List Nat→List Nat→Bool
 | [],_=>true
 | t :: l,m=>!(mem t m)&&noneIn l m
def dstL:List Oper→List Nat
 | []=>[]
 | o :: l=>match o.dst with
  | some t=>t :: dstL l
  | none=>dstL l
def nodupN:List Nat→Bool
 | []=>true
 | n :: l=>!(mem n l)&&nodupN l
def orM:List Bool→List Bool→List Bool
 | a :: l,b :: m=>(a||b) :: orM l m
 | l,_=>l
def stepM:List (List Bool)→List Bool→List Bool→List Bool
 | d :: ds,true :: bs,acc=>stepM ds bs (orM acc d)
 | _ :: ds,false :: bs,acc=>stepM ds bs acc
 | _,_,acc=>acc
def iterM (dm:List (List Bool)):Nat→List Bool→List Bool
 | 0,m=>m
 | n+1,m=>iterM dm n (stepM dm m m)
def depL (o:Oper):List Nat:=(o.after.toList.filter fun e=>Region.binds .any e).map fun e=>e.on
def lorAll (cl:List Nat):List Nat→Nat→Nat
 | [],acc=>acc
 | j :: l,acc=>lorAll cl l (Nat.lor acc (Nat.lor (Nat.pow 2 j) (cl.getD j 0)))
def closN:List Oper→List Nat→List Nat
 | [],acc=>acc
 | o :: l,acc=>closN l (acc++[lorAll acc (depL o) 0])
def full (i c:Nat):Bool:=Nat.beq (Nat.land c (Nat.sub (Nat.pow 2 i) 1)) (Nat.sub (Nat.pow 2 i) 1)
def waits (cl:List Nat) (n:Nat):Nat→List Oper→Bool
 | _,[]=>true
 | i,o :: l=>bigDep o i&&full i (lorAll cl (depL o) 0)&&waits cl n (i+1) l
def frontN (dm:List Nat) (n:Nat):Nat→List Oper→Nat
 | _,[]=>0
 | i,o :: l=>bif Nat.beq (frontN dm n (i+1) l) 0&&waits dm n i [o] then 0 else frontN dm n (i+1) l+1
def drawOps (ops:List Oper) (r:Env) (k:Env→Option R):Option R :=
 let dm:=closN ops []
 let m:=frontN dm ops.length 0 ops
 let ds:=dstL (ops.take m)
 let b:Env:={ r with tm:=delAll ds r.tm }
 bif nodupN ds&&noneIn ds r.rt&&farNs ds r.rn&&farT ds b.tm&&farO ds b.ob&&waits dm ops.length m (ops.drop m) then
  drawGo Γ N cal ops ds b (ops.take m) [] fun δs=>execOps Γ N cal ops (ops.drop m) (envOf b δs (δs.map fun _=>true)) k
 else none
def updO (n:Nat) (cs:List CV) (r:Env):Env:={ r with ob:=(n,.box cs) :: del n r.ob }
def storeAt (r:Env) (o:Oper) (k:Nat→List CV→Option R):Option R :=
 match o.op with
 | .store t a x=>match Γ.ty t,r.evc Γ a,r.eval Γ x with
  | some τ,some p,some (.t w)=>bif Nat.beq (cellsOf w).length τ.size&&okCs (cellsOf w) then
    match p with
    | .ref n off=>match r.obj n with
     | some (.box old)=>bif Nat.ble (off+(cellsOf w).length) old.length then bif !(mem n r.rn) then k n (setCells old off (cellsOf w)) else none else none
     | _=>none
    | _=>none
   else none
  | _,_,_=>none
 | _=>none
def under (ops:List Oper):Nat→Operand→Operand
 | 0,x=>x
 | n+1,x=>match x with
  | .tmp t=>(match ops.find? fun o=>match o.dst with
    | some d=>Nat.beq d t
    | none=>false with
   | some o=>(match o.op with
    | .move y=>under ops n y
    | .nilCheck y=>under ops n y
    | .fieldAddr _ y _=>under ops n y
    | _=>x)
   | none=>x)
  | _=>x
def hideB (ops:List Oper) (b:Env) (o:Oper):Env :=
 match o.op with
 | .store _ a _=>match b.evc Γ (under ops 4 a) with
  | some (.ref n _)=>{ b with ob:=del n b.ob }
  | _=>{ b with ob:=[] }
 | _=>{ b with ob:=[] }
def isStore (o:Oper):Bool:=match o.op,o.dst,o.guard with
 | .store _ _ _,none,none=>true
 | _,_,_=>false
def drawGo2 (ops:List Oper) (ds:List Nat) (b bb:Env):List Oper→List Bool→List Dl→(List Dl→Option R)→Option R
 | [],_,acc,k=>k acc
 | o :: os,s :: sel,acc,k=>litG ops o acc fun acc=>bif mild Γ o&&bigDep o acc.length&&mildAt Γ (envOf (bif s then b else bb) acc (maskOf o 0 acc.length)) o then
   gstep Γ N cal ops (envOf (bif s then b else bb) acc (maskOf o 0 acc.length)) o fun δ=>bif okDl ds δ then drawGo2 ops ds b bb os sel (acc++[δ]) k else none
  else none
 | _ :: _,[],_,_=>none
def unselD:List Oper→List Bool→List Nat
 | o :: l,false :: bs=>(match o.dst with
  | some t=>[t]
  | none=>[])++unselD l bs
 | _ :: l,true :: bs=>unselD l bs
 | l,[]=>dstL l
 | [],_=>[]
def noDep (s:Nat):List Oper→List Bool→Bool
 | o :: os,true :: bs=>(match o.dst with
  | some t=>!(Nat.beq t s)
  | none=>true)&&noDep s os bs
 | _ :: os,false :: bs=>noDep s os bs
 | _,_=>true
def apartL (ops:List Oper) (s i:Nat):List Oper→List Bool→Bool
 | o :: os,false :: bs=>(match o.dst with
  | some t=>!(Nat.beq t s)
  | none=>true)&&noDep s ops (maskOf o 0 i)&&apartL ops s (i+1) os bs
 | _ :: os,true :: bs=>apartL ops s (i+1) os bs
 | _ :: _,[]=>false
 | [],_=>true
def isNone {α:Type}:Option α→Bool
 | none=>true
 | some _=>false
def drawS (ops:List Oper) (r:Env) (m:Nat) (so:Oper) (k:Env→Option R):Option R :=
 let dm:=closN ops []
 let ds:=dstL (ops.take m)
 let b:Env:={ r with tm:=delAll ds r.tm }
 let sel:=iterM (ops.map fun o=>maskOf o 0 ops.length) ops.length (maskOf so 0 ops.length)
 bif nodupN ds&&noneIn ds r.rt&&farNs ds r.rn&&farT ds b.tm&&farO ds b.ob&&waits dm ops.length (m+1) (ops.drop (m+1))&&isStore so&&bigDep so m then
  drawGo2 Γ N cal ops ds b (hideB Γ ops b so) (ops.take m) sel [] fun δs=>storeAt Γ (envOf b δs (maskOf so 0 m)) so fun n cs =>
   bif (isNone ((hideB Γ ops b so).obj n)&&apartL (ops.take m) (n / 64) 0 (ops.take m) sel)&&farNs (unselD (ops.take m) sel) (cnames cs) then execOps Γ N cal ops (ops.drop (m+1)) (updO n cs (envOf b δs (δs.map fun _=>true))) k else none
 else none
def isIo (o:Oper):Bool:=match o.guard with
 | some _=>false
 | none=>match o.op with
  | .call c=>(match c.callee with
   | .value (.func g)=>!(ioTys (Γ.ent g).sg.ps).isEmpty&&(look Γ.ho g).isNone
   | _=>false)
  | _=>false
def ioAt (r:Env) (n:Nat) (o:Oper):Bool:=match o.op with
 | .call c=>(match c.callee with
  | .value (.func g)=>(Γ.ent g).sg.ps.all (fun p=>Nat.ble p.2 1)&&(match evArgs Γ r c.args.toList with
   | some vs=>(valNames (Γ.ent g).sg.ps vs).isEmpty&&(match ioNames (Γ.ent g).sg.ps vs with
    | some [m]=>Nat.beq m n
    | _=>false)
   | none=>false)
  | _=>false)
 | _=>false
def isBs (o:Oper):Bool:=match o.op with
 | .buildSlice _ _ _=>true
 | _=>false
def frzAt (r:Env) (o:Oper) (k:Dl→Option R):Option R:=match o.op,o.guard,o.dst with
 | .buildSlice t len parts,none,some d=>(match lstTy (Γ.ty t),evParts Γ r parts.toList with
  | some e,some vs=>bif okElem e&&noNames vs then (match elems e 0 vs with
   | some xs=>bif (Nat.beq vs.length len&&Nat.ble (len*e.size) 16777216)&&(Nat.blt (nm d 1) parBase && !(mem (nm d 1) r.rn)) then (r.put N (some d) (.c (.imm e xs)) fun _=>k ⟨some d,.c (.imm e xs),[]⟩) else none
   | none=>none) else none
  | _,_=>none)
 | _,_,_=>none
def drawGo3 (ops:List Oper) (ds:List Nat) (bs:Nat→Env) (n:Nat):List Oper→Option Nat→List CV→List Dl→List (Option (List CV))→(List Dl→List (Option (List CV))→List CV→Option R)→Option R
 | [],_,cur,acc,us,k=>k acc us cur
 | o :: os,last,cur,acc,us,k=>bif isIo Γ o then
   (bif bigDep o acc.length&&(match last with
    | none=>true
    | some j=>depOn o j)&&ioAt Γ (updO n cur (envOf (bs acc.length) acc (maskOf o 0 acc.length))) n o then
    step Γ N cal (updO n cur (envOf (bs acc.length) acc (maskOf o 0 acc.length))) o fun r'=>match r'.obj n with
     | some (.box cs)=>bif okDl ds (dlOf (updO n cur (envOf (bs acc.length) acc (maskOf o 0 acc.length))) o r')&&(cnames cs).isEmpty then
       drawGo3 ops ds bs n os (some acc.length) cs (acc++[dlOf (updO n cur (envOf (bs acc.length) acc (maskOf o 0 acc.length))) o r']) (us++[some cs]) k else none
     | _=>none
   else none)
  else bif isBs o then
   (bif bigDep o acc.length then frzAt Γ N (envOf (bs acc.length) acc (maskOf o 0 acc.length)) o fun δ=>bif okDl ds δ then drawGo3 ops ds bs n os last cur (acc++[δ]) (us++[none]) k else none else none)
  else litG ops o acc fun acc=>bif mild Γ o&&bigDep o acc.length&&mildAt Γ (envOf (bs acc.length) acc (maskOf o 0 acc.length)) o then
   gstep Γ N cal ops (envOf (bs acc.length) acc (maskOf o 0 acc.length)) o fun δ=>bif okDl ds δ then drawGo3 ops ds bs n os last cur (acc++[δ]) (us++[none]) k else none
  else none
def behind (ops:List Oper) (x:Operand):Operand:=match x with
 | .tmp t=>(match ops.find? fun o=>match o.dst with
   | some d=>Nat.beq d t
   | none=>false with
  | some o=>(match o.op with
   | .move y=>y
   | _=>x)
  | none=>x)
 | _=>x
def ioPar:List (Ty×Nat)→List Operand→Option Operand
 | (_,0) :: ps,_ :: xs=>ioPar ps xs
 | _ :: _,x :: _=>some x
 | _,_=>none
def ioFind (b:Env) (ops:List Oper):List Oper→Option Nat
 | []=>none
 | o :: os=>bif isIo Γ o then (match o.op with
   | .call c=>(match c.callee with
    | .value (.func g)=>(match ioPar (Γ.ent g).sg.ps c.args.toList with
     | some x=>(match b.evc Γ (behind ops x) with
      | some (.ref n _)=>some n
      | _=>none)
     | none=>none)
    | _=>none)
   | _=>none)
  else ioFind b ops os
def drawIO (ops:List Oper) (r:Env) (k:Env→Option R):Option R :=
 let dm:=closN ops []
 let m:=frontN dm ops.length 0 ops
 let ds:=dstL (ops.take m)
 let b:Env:={ r with tm:=delAll ds r.tm }
 match ioFind Γ b ops (ops.take m) with
 | some n=>(match r.obj n with
  | some (.box cs0)=>bif (nodupN ds&&noneIn ds r.rt&&farNs ds r.rn&&farT ds b.tm&&farO ds b.ob&&waits dm ops.length m (ops.drop m))&&(!(mem n r.rn)&&(cnames cs0).isEmpty) then
    drawGo3 Γ N cal ops ds (fun _=>{ b with ob:=del n b.ob }) n (ops.take m) none cs0 [] [] fun δs _ cur=>execOps Γ N cal ops (ops.drop m) (updO n cur (envOf b δs (δs.map fun _=>true))) k
   else none
  | _=>none)
 | none=>none
def drawIOA (ops:List Oper) (r:Env) (k:Env→Option R):Option R:=drawIO Γ N cal ops r k
def isAp (o:Oper):Bool:=match o.guard with
 | some _=>false
 | none=>match o.op with
  | .call c=>(match c.callee with
   | .builtin .append=>true
   | _=>false)
  | _=>false
def apN (r:Env) (o:Oper):Option Nat:=match o.op with
 | .call c=>(match c.args.toList with
  | x :: _=>(match r.evc Γ x with
   | some (.sl n)=>some n
   | _=>none)
  | _=>none)
 | _=>none
def dropE (n:Nat) (r:Env):Env:={ r with ob:=del n r.ob }
def slotIx:List Dl→Nat→Nat→Option Nat
 | [],_,_=>none
 | δ :: l,t,i=>match δ.d with
  | some u=>bif Nat.beq u t then some i else slotIx l t (i+1)
  | none=>slotIx l t (i+1)
def drawGo4 (ops:List Oper) (ds:List Nat) (b:Env):List Oper→List Dl→List (Option Nat)→(List Dl→List (Option Nat)→Option R)→Option R
 | [],acc,pr,k=>k acc pr
 | o :: os,acc,pr,k=>bif isAp o then
   (match apN Γ (envOf b acc (maskOf o 0 acc.length)) o with
   | some n=>(match slotIx acc (n / 64) 0 with
    | some p=>bif bigDep o acc.length then
      step Γ N cal (envOf b acc (maskOf o 0 acc.length)) o fun r'=>bif okDl ds (dlOf (dropE n (envOf b acc (maskOf o 0 acc.length))) o r') then
       drawGo4 ops ds b os (acc++[dlOf (dropE n (envOf b acc (maskOf o 0 acc.length))) o r']) (pr++[some p]) k else none
     else none
    | none=>none)
   | none=>none)
  else litG ops o acc fun acc=>bif mild Γ o&&bigDep o acc.length&&mildAt Γ (envOf b acc (maskOf o 0 acc.length)) o then
   gstep Γ N cal ops (envOf b acc (maskOf o 0 acc.length)) o fun δ=>bif okDl ds δ then drawGo4 ops ds b os (acc++[δ]) (pr++[none]) k else none
  else none
def soleGo (p k:Nat):Nat→List Oper→Bool
 | _,[]=>true
 | i,o :: l=>(Nat.beq i k || !depOn o p)&&soleGo p k (i+1) l
def soles (os:List Oper):Nat→List (Option Nat)→Bool
 | _,[]=>true
 | i,some p :: l=>soleGo p i 0 os&&soles os (i+1) l
 | i,none :: l=>soles os (i+1) l
def usedIn (j:Nat):List (Option Nat)→Bool
 | []=>false
 | some p :: l=>Nat.beq p j||usedIn j l
 | none :: l=>usedIn j l
def finM (pr:List (Option Nat)):Nat→Nat→List Bool
 | _,0=>[]
 | j,n+1=>(!usedIn j pr) :: finM pr (j+1) n
def drawCh (ops:List Oper) (r:Env) (k:Env→Option R):Option R :=
 let dm:=closN ops []
 let m:=frontN dm ops.length 0 ops
 let ds:=dstL (ops.take m)
 let b:Env:={ r with tm:=delAll ds r.tm }
 bif nodupN ds&&noneIn ds r.rt&&farNs ds r.rn&&farT ds b.tm&&farO ds b.ob&&waits dm ops.length m (ops.drop m) then
  drawGo4 Γ N cal ops ds b (ops.take m) [] [] fun δs pr=>bif soles (ops.take m) 0 pr then execOps Γ N cal ops (ops.drop m) (envOf b δs (finM pr 0 m)) k else none
 else none
def drawB (ops:List Oper) (r:Env) (k:Env→Option R):Option R :=
 bif (ops.take (frontN (closN ops []) ops.length 0 ops)).any (isIo Γ) then drawIOA Γ N cal ops r k else
 match ops.drop (frontN (closN ops []) ops.length 0 ops-1) with
 | so :: _=>bif isStore so&&Nat.blt 0 (frontN (closN ops []) ops.length 0 ops) then drawS Γ N cal ops r (frontN (closN ops []) ops.length 0 ops-1) so k else drawOps Γ N cal ops r k
 | []=>drawOps Γ N cal ops r k
def drawC (ops:List Oper) (r:Env) (k:Env→Option R):Option R :=
 bif (ops.take (frontN (closN ops []) ops.length 0 ops)).any isAp then drawCh Γ N cal ops r k else drawB Γ N cal ops r k
def isExt (o:Oper):Bool:=match o.guard,o.op with
 | none,.extract _ _=>true
 | _,_=>false
def withE (so:Oper) (n:Nat):Oper:={ so with after:=so.after.push { on:=n,ground:=.data } }
def drawA (ops:List Oper) (r:Env) (k:Env→Option R):Option R:=drawC Γ N cal ops r k
end Go.VM
namespace Go.VM
open Go.RowKit
inductive VExit where
 | normal | exit (id:Nat) | ret
def dsts:List Oper→List Nat
 | []=>[]
 | o :: l=>match o.dst with
  | some d=>d :: dsts l
  | none=>dsts l
def wr:Code→List Nat
 | .region _ ops _=>dsts ops.toList
 | .seq a b=>wr a++wr b
 | .cond _ a b=>wr a++wr b
 | .block _ b=>wr b
 | .loop b=>wr b
 | .scope b=>wr b
 | _=>[]
def key:Code→Nat
 | .region i _ _=>i
 | .seq a _=>key a
 | .cond _ a _=>key a
 | .block _ b=>key b
 | .loop b=>key b
 | .scope b=>key b
 | _=>0
def nodup:List Nat→Bool
 | []=>true
 | n :: l=>!(mem n l)&&nodup l
def disj:List Nat→List Nat→Bool
 | [],_=>true
 | n :: l,m=>!(mem n m)&&disj l m
def takeC (ob:Nat→Option Ob) (own:Bool) (t:Ty) (v:TV):Option (t.den×List Nat) :=
 bif own then
  (match ownC ob t (cellsOf v) with
  | some (x,ns,[])=>bif (match v with | .one _=>!t.isS | .agg _=>t.isS) then some (x,ns) else none
  | _=>none)
 else match denTV (fun _=>none) t v with
  | some x=>some (x,[])
  | none=>none
def LV.ty:LV→Ty
 | .tmp _ t _=>t
 | .box _ t _=>t
 | .row _ e=>.lst e
def stTmp (r:Env) (t:Nat) (τ:Ty) (own:Bool):Option (τ.den×List Nat) :=
 match r.get t with
 | some (.t w)=>takeC r.obj own τ w
 | _=>none
def boxTV (τ:Ty) (cs:List CV):TV :=
 bif τ.isS then .agg cs else match cs with
  | [c]=>.one c
  | _=>.agg []
def stBox (r:Env) (n:Nat) (τ:Ty) (own:Bool):Option (τ.den×List Nat) :=
 match r.obj n with
 | some (.box cs)=>takeC r.obj own τ (boxTV τ cs)
 | _=>none
def stRow (r:Env) (n:Nat) (e:Ty):Option (List e.den×List Nat) :=
 match r.obj n with
 | some (.row e' xs)=>if h:e'=e then some (castL h xs,[]) else none
 | _=>none
def stOne (r:Env):(v:LV)→Option (v.ty.den×List Nat)
 | .tmp t τ own=>stTmp r t τ own
 | .box n τ own=>stBox r n τ own
 | .row n e=>stRow r n e
def stOf (r:Env):(l:List LV)→Option ((prodTy (l.map LV.ty)).den×List Nat)
 | []=>some ((),[])
 | v :: l=>match stOne r v with
  | none=>none
  | some p=>match stOf r l with
   | none=>none
   | some q=>some ((p.1,q.1),p.2++q.2)
def vSlots:List LV→List Nat
 | []=>[]
 | .tmp t _ _ :: l=>t :: vSlots l
 | _ :: l=>vSlots l
def vNames:List LV→List Nat
 | []=>[]
 | .box n _ _ :: l=>n :: vNames l
 | .row n _ :: l=>n :: vNames l
 | _ :: l=>vNames l
def stTm:(l:List LV)→(prodTy (l.map LV.ty)).den→List (Nat×SV)
 | [],_=>[]
 | .tmp t τ own :: l,x=>(t,.t (mkTV τ (bif own then (ownCells τ x.1 (nm t 1)).1 else toCells τ x.1))) :: stTm l x.2
 | .box _ _ _ :: l,x=>stTm l x.2
 | .row _ _ :: l,x=>stTm l x.2
def stOb:(l:List LV)→(prodTy (l.map LV.ty)).den→List (Nat×Ob)
 | [],_=>[]
 | .tmp t τ own :: l,x=>(bif own then (ownCells τ x.1 (nm t 1)).2 else [])++stOb l x.2
 | .box n τ own :: l,x=>(n,.box (bif own then (ownCells τ x.1 (n+1)).1 else toCells τ x.1)) :: (bif own then (ownCells τ x.1 (n+1)).2 else [])++stOb l x.2
 | .row n e :: l,x=>(n,.row e x.1) :: stOb l x.2
def selT (kp ns:List Nat):List (Nat×SV)→List (Nat×SV)
 | []=>[]
 | (t,v) :: l=>bif mem t kp && !(mem t ns) then (t,v) :: selT kp ns l else selT kp ns l
def keepO (ns:List Nat):List (Nat×Ob)→List (Nat×Ob)
 | []=>[]
 | (t,v) :: l=>bif mem t ns then keepO ns l else (t,v) :: keepO ns l
def keys {α:Type}:List (Nat×α)→List Nat
 | []=>[]
 | (k,_) :: l=>k :: keys l
def Env.const (r:Env) (kp w:List Nat) (l:List LV) (ns:List Nat):Env :=
 let tm:=selT (kp++r.rt) (w++vSlots l) r.tm
 let ob:=keepO (ns++vNames l) r.ob
 { tm,ob,rt:=r.rt++keys tm,rn:=r.rn++keys ob }
def Env.with (c:Env) (l:List LV) (x:(prodTy (l.map LV.ty)).den):Env :=
 { c with tm:=stTm l x++c.tm,ob:=stOb l x++c.ob }
def upFrom (m:Nat):Nat→List Nat
 | 0=>[]
 | k+1=>m :: upFrom (m+1) k
def newN:List LV→List Nat
 | []=>[]
 | .tmp t τ own :: l=>(bif own then upFrom (nm t 1) (lists τ) else [])++newN l
 | .box n τ own :: l=>(bif own then upFrom (n+1) (lists τ) else [])++newN l
 | .row _ _ :: l=>newN l
def silentT (ns:List Nat):List (Nat×SV)→Bool
 | []=>true
 | (_,v) :: l=>disj v.names ns&&silentT ns l
def silentO (ns:List Nat):List (Nat×Ob)→Bool
 | []=>true
 | (_,v) :: l=>disj v.names ns&&silentO ns l
def allLt:List Nat→Bool
 | []=>true
 | n :: l=>Nat.blt n parBase&&allLt l
def Env.apart (r:Env) (kp w:List Nat) (l:List LV) (ns:List Nat):Bool :=
 disj r.rt (w++vSlots l)&&disj r.rn (ns++vNames l)&&disj r.rn (newN l)&&allLt (newN l)&&nodup (newN l++vNames l)&&disj (newN l++vNames l) (keys (keepO (ns++vNames l) r.ob))&&nodup (vSlots l) &&
 silentT (newN l) (selT (kp++r.rt) (w++vSlots l) r.tm)&&silentO (newN l) (keepO (ns++vNames l) r.ob)
def Env.sole (r:Env) (l:List LV) (ns:List Nat):Bool:=nodup ns&&disj ns (r.rn++vNames l)
variable (Γ:Ctx) (N:Nat) (cal:Cal Γ) (H:List (Nat×List Nat×List LV))
def loopR {S R:Type} (F:(S→Option R)→S→Option R):Nat→S→Option R
 | 0,_=>none
 | n+1,s=>F (loopR F n) s
def joinE {A R:Type} (f:A→Option R):A ⊕ R→Option R
 | .inl a=>f a
 | .inr q=>some q
def frzNames (r:Env):List Nat→List Nat
 | []=>[]
 | t :: l=>(match r.get t with
  | some v=>v.names
  | none=>[])++frzNames r l
def Env.pre {R:Type} (r:Env) (h:Option (List Nat×List LV)) (k:Env→Option R):Option R:=match h with
 | none=>k r
 | some (l,_)=>r.freezeAll (frzNames r l) k
def exec (n:Nat):Code→(R:Type)→Env→(VExit→Env→Option R)→Option R
 | .skip,_,r,k=>k .normal r
 | .label _,_,r,k=>k .normal r
 | .region id ops draw,_,r,k=>r.pre (look H (2*id+1000000)) fun r=>bif draw then drawA Γ N cal ops.toList r (k .normal) else execOps Γ N cal ops.toList ops.toList r (k .normal)
 | .seq x y,R,r,k=>match look H (2*key y+1) with
  | none=>exec n x R r fun e r'=>match e with
   | .normal=>exec n y R r' k
   | e=>k e r'
  | some (kp,l)=>match stOf r l with
   | none=>none
   | some (x0,ns) =>
    let c:=r.const kp (wr x) l ns
    bif r.apart kp (wr x) l ns&&c.sole l ns then
    (exec n x ((prodTy (l.map LV.ty)).den ⊕ R) (c.with l x0) fun e r'=>match e with
     | .normal=>match stOf r' l with
      | some (x1,ns1)=>bif r'.sole l ns1 then some (.inl x1) else none
      | none=>none
     | e=>match k e { r' with rt:=r.rt,rn:=r.rn } with
      | some q=>some (.inr q)
      | none=>none).bind (joinE fun x1=>exec n y R { c.with l x1 with rt:=r.rt,rn:=r.rn } k)
    else none
 | .cond c x y,R,r,k=>match r.evc Γ c with
  | some (.bool b)=>bif b then exec n x R (r.lit c true) k else exec n y R (r.lit c false) k
  | _=>none
 | .block id b,R,r,k=>exec n b R r fun e r'=>match e with
  | .exit i=>bif Nat.beq i id then k .normal r' else k (.exit i) r'
  | e=>k e r'
 | .loop b,R,r,k=>match look H (2*key b) with
  | none=>none
  | some (kp,l)=>match stOf r l with
   | none=>none
   | some (x0,ns) =>
    let c:=r.const kp (wr b) l ns
    bif r.apart kp (wr b) l ns&&c.sole l ns then
    loopR (fun self x=>exec n b R (c.with l x) fun e r'=>match e with
     | .normal=>match stOf r' l with
      | some (x1,ns1)=>bif r'.sole l ns1 then self x1 else none
      | none=>none
     | e=>k e { r' with rt:=r.rt,rn:=r.rn }) n x0
    else none
 | .exit id,_,r,k=>k (.exit id) r
 | .ret,_,r,k=>k .ret r
 | .scope b,R,r,k=>exec n b R r k
 | _,_,_,_=>none
def parSV (i:Nat) (p:Ty×Nat) (x:(pTy p).den):SV :=
 match p,x with
 | (t,0),x=>.t (toTV t x)
 | (_,1),_=>.c (.ref (pn i 0) 0)
 | (t,2),x=>.c (.sl (pn i 1))
 | (t,3),x=>.t (.agg (ownCells t x (pn i 1)).1)
 | (_,_+4),_=>.c (.sl (pn i 1))
def parOb (i:Nat) (p:Ty×Nat) (x:(pTy p).den):List (Nat×Ob) :=
 match p,x with
 | (t,1),x=>[(pn i 0,.box (toCells t x))]
 | (e,2),x=>[(pn i 1,.row e x)]
 | (t,3),x=>(ownCells t x (pn i 1)).2
 | _,_=>[]
def parsSV:(i:Nat)→(ps:List (Ty×Nat))→(prodTy (ps.map pTy)).den→List SV
 | _,[],_=>[]
 | i,p :: ps,x=>parSV i p x.1 :: parsSV (i+1) ps x.2
def parsOb:(i:Nat)→(ps:List (Ty×Nat))→(prodTy (ps.map pTy)).den→List (Nat×Ob)
 | _,[],_=>[]
 | i,p :: ps,x=>parOb i p x.1++parsOb (i+1) ps x.2
def zipN:Nat→List SV→List (Nat×SV)
 | _,[]=>[]
 | i,v :: l=>(i,v) :: zipN (i+1) l
def ioObs:Nat→(ps:List (Ty×Nat))→(prodTy (ioTys ps)).den→List (Nat×Ob)
 | _,[],_=>[]
 | i,(_,0) :: ps,x=>ioObs (i+1) ps x
 | i,(t,1) :: ps,x=>(pn i 0,.box (toCells t x.1)) :: ioObs (i+1) ps x.2
 | i,(e,2) :: ps,x=>(pn i 1,.row e x.1) :: ioObs (i+1) ps x.2
 | i,(t,3) :: ps,x=>(pn i 1,.row (lstE t) x.1) :: ioObs (i+1) ps x.2
 | i,(_,_+4) :: ps,_=>[]
def ownOne:Nat→Ty→Bool
 | 0,_=>false
 | 1,t=>hasLst t
 | _+2,_=>true
def anyOwn:List (Ty×Nat)→Bool
 | []=>false
 | (t,own) :: l=>ownOne own t||anyOwn l
def lowOb (r:Env) (n:Nat):Option Ob:=bif Nat.blt n parBase then r.obj n else none
def resOb (r:Env) (rs:List (Ty×Nat)):Nat→Option Ob:=bif anyOwn rs then fun _=>none else lowOb r
def ptrOf (r:Env) (t:Ty) (w:TV):Option (t.den×List Nat) :=
 match w with
 | .one (.ref n 0)=>bif Nat.blt n parBase then (match r.obj n with
  | some (.box cs)=>(match ofCells (fun _=>none) t cs with
   | some (x,[])=>some (x,[n])
   | _=>none)
  | _=>none) else none
 | _=>none
def resOne (r:Env) (ob:Nat→Option Ob) (t:Ty) (own:Nat) (w:TV):Option (t.den×List Nat) :=
 match own with
 | 0=>(match denTV ob t w with
  | some x=>some (x,[])
  | none=>none)
 | 1=>takeC r.obj true t w
 | _+2=>ptrOf r t w
def resVal (r:Env):ResultVar→Option TV
 | .tmp s=>match r.get s with
  | some (.t w)=>some w
  | _=>none
 | .cell s t=>match Γ.ty t,r.get s with
  | some τ,some (.t (.one p))=>match r.rd τ.size p with
   | some cs=>bif Nat.beq cs.length τ.size then asTV τ cs else none
   | none=>none
  | _,_=>none
def resOf (r:Env) (ob:Nat→Option Ob):(rs:List (Ty×Nat))→List ResultVar→(l:List Ty)→(List Nat→Option (prodTy l).den)→List Nat→Option (prodTy (rs.map (·.1)++l)).den
 | [],[],_,io,ns=>bif nodup ns then io ns else none
 | (t,own) :: rs,v :: vs,l,io,ns=>match resVal Γ r v with
  | some w=>match resOne r ob t own w with
   | some p=>match resOf r ob rs vs l io (ns++p.2) with
    | some q=>some (p.1,q)
    | none=>none
   | none=>none
  | none=>none
 | _,_,_,_,_=>none
def ioOf (r:Env):Nat→(ps:List (Ty×Nat))→List Nat→Option (prodTy (ioTys ps)).den
 | _,[],_=>some ()
 | i,(t,0) :: ps,ns=>ioOf r (i+1) ps ns
 | i,(t,1) :: ps,ns=>match r.obj (pn i 0) with
  | some (.box cs)=>match ofCells (fun _=>none) t cs with
   | some (x,[])=>match ioOf r (i+1) ps ns with
    | some q=>some (x,q)
    | none=>none
   | _=>none
  | _=>none
 | i,(e,2) :: ps,ns=>bif mem (pn i 1) ns then none else match r.obj (pn i 1) with
  | some (.row e' xs)=>if h:e'=e then match ioOf r (i+1) ps ns with
    | some q=>some (castL h xs,q)
    | none=>none
   else none
  | _=>none
 | i,(t,3) :: ps,ns=>bif mem (pn i 1) ns || !(Nat.beq (lists t) 1) then none else match r.obj (pn i 1) with
  | some (.row e' xs)=>if h:e'=lstE t then match ioOf r (i+1) ps ns with
    | some q=>some (castL h xs,q)
    | none=>none
   else none
  | _=>none
 | _,(_,n+4) :: _,_=>none
def runFn (n:Nat) (fn:Func) (sg:Sig) (x:sg.inTy.den):Option sg.outTy.den :=
 match fn.body with
 | none=>none
 | some c =>
  let r:Env:={ tm:=zipN 0 (parsSV 0 sg.ps x),ob:=parsOb 0 sg.ps x }
  bif Nat.beq N fn.ntmps&&nodup (keys r.ob)&&Nat.ble sg.ps.length N then
  exec Γ N cal H n c sg.outTy.den r fun e r=>match e with
   | .exit _=>none
   | _=>resOf Γ r (resOb r sg.rs) sg.rs fn.results.toList (ioTys sg.ps) (ioOf r 0 sg.ps) []
  else none
def call:Nat→Cal Γ
 | 0,_,_=>none
 | n+1,g,x=>match (Γ.ent g).ext with
  | some F=>F x
  | none=>runFn Γ (Γ.ent g).fn.ntmps (call n) (Γ.ent g).hints n (Γ.ent g).fn (Γ.ent g).sg x
end Go.VM
namespace Go.VM
open Go.RowKit
inductive All2 {α β:Type} (R:α→β→Prop):List α→List β→Prop
 | nil:All2 R [] []
 | cons {x y xs ys}:R x y→All2 R xs ys→All2 R (x :: xs) (y :: ys)
def CellsAt (w:World) (b o:Nat) (vs:List Value):Prop:=∀j v,vs[j]? = some v→w.cell? ⟨b,o+j,none⟩=some v
def ErrV (b:Bool) (V:Value):Prop:=(b=true∧V=.nilIface)∨(b=false∧∃t p,V=.iface t p)
theorem ErrV.one {b:Bool} {V:Value} (h:ErrV b V):V.oneCell'=true:=by
 rcases h with ⟨_,rfl⟩ | ⟨_,t,p,rfl⟩ <;> rfl
def RepC (θ:Nat→Value) (S:Nat→Prop) (w:World):(t:Ty)→t.den→List Value→Prop
 | .unit,_,vs=>vs=[]
 | .pair a b,x,vs=>∃v1 v2,vs=v1++v2∧RepC θ S w a x.1 v1∧RepC θ S w b x.2 v2
 | .int k,n,vs=>vs=[.int k n]
 | .bool,b,vs=>vs=[.bool b]
 | .str,l,vs=>vs=[.string (mkB l)]
 | .lst e,xs,vs=>∃p cap,vs=[.slice p xs.length cap]∧xs.length≤cap∧(xs=[]∨∃b o,p=some ⟨b,o,none⟩∧S b ∧
   ∀i x,xs[i]? = some x→∃ws,RepC θ S w e x ws∧CellsAt w b (o+i*e.size) ws)
 | .opq,n,vs=>vs=[θ n]
 | .adr t,x,vs=>∃b o ws,vs=[.pointer (some ⟨b,o,none⟩)]∧S b∧RepC θ S w t x ws∧CellsAt w b o ws
 | .err,b,vs=>∃V,vs=[V]∧ErrV b V
 | .rd e,xs,vs=>∃p cap,vs=[.slice p xs.length cap]∧xs.length≤cap∧(xs=[]∨∃b o,p=some ⟨b,o,none⟩∧S b ∧
   ∀i x,xs[i]? = some x→∃ws,RepC θ S w e x ws∧CellsAt w b (o+i*e.size) ws)
def RCV (ι θ:Nat→Value) (S:Nat→Prop) (w:World):CV→Value→Prop
 | .int k n,V=>V=.int k n
 | .bool b,V=>V=.bool b
 | .str l,V=>V=.string (mkB l)
 | .val v,V=>V=v
 | .sl n,V=>V=ι n
 | .imm e xs,V=>RepC θ S w (.lst e) xs [V]
 | .ref n off,V=>∃b,ι n=.pointer (some ⟨b,0,none⟩)∧V=.pointer (some ⟨b,off,none⟩)
 | .elm n e i off,V=>∃b o len cap,ι n=.slice (some ⟨b,o,none⟩) len cap∧i<len∧V=.pointer (some ⟨b,o+(i*e.size+off),none⟩)
 | .idx t x off,V=>∃b o ws,V=.pointer (some ⟨b,o+off,none⟩)∧S b∧RepC θ S w t x ws∧CellsAt w b o ws
 | .opq n,V=>V=θ n
 | .err b,V=>ErrV b V
 | .clo h b f y t x,V=>∃vs us,V=.func (.func h) ⟨bif b then [.agg ⟨vs⟩] else []⟩ ⟨us⟩∧RepC θ S w f y vs∧RepC θ S w t x us
def RTV (ι θ:Nat→Value) (S:Nat→Prop) (w:World):TV→Value→Prop
 | .one c,V=>RCV ι θ S w c V
 | .agg cs,V=>∃vs,V=.agg ⟨vs⟩∧All2 (RCV ι θ S w) cs vs
def RSV (ι θ:Nat→Value) (S:Nat→Prop) (w:World):SV→Value→Prop
 | .t v,V=>RTV ι θ S w v V
 | .tup vs,V=>∃us,V=.tuple ⟨us⟩∧All2 (RTV ι θ S w) vs us
def blk:Value→Option Nat
 | .slice (some a) _ cap=>if cap=0 then none else some a.block
 | .pointer (some a)=>some a.block
 | _=>none
def ROb (ι θ:Nat→Value) (S:Nat→Prop) (w:World) (n:Nat):Ob→Prop
 | .row e xs=>0<e.size∧∃p cap,ι n=.slice p xs.length cap∧xs.length≤cap∧(cap=0∨∃b o,p=some ⟨b,o,none⟩ ∧
   (∀k,k<cap*e.size→(∃v,w.cell? ⟨b,o+k,none⟩=some v)∧w.frozen? ⟨b,o+k,none⟩=false) ∧
   ∀i x,xs[i]? = some x→∃ws,RepC θ S w e x ws∧CellsAt w b (o+i*e.size) ws)
 | .box cs=>∃b vs,ι n=.pointer (some ⟨b,0,none⟩)∧b<w.heap.size∧All2 (RCV ι θ S w) cs vs∧CellsAt w b 0 vs ∧
   ∀j,j<vs.length→w.frozen? ⟨b,j,none⟩=false
structure Keep (M:Nat→Prop) (w w':World):Prop where
 os:w'.os=w.os
 tape:w'.tape=w.tape
 output:w'.output=w.output
 size:w.heap.size≤w'.heap.size
 block:∀k,k<w.heap.size→¬M k→w'.heap[k]? = w.heap[k]?
structure RepW (θ:Nat→Value) (N:Nat) (w0:World) (M0 S0:Nat→Prop) (ι0:Nat→Value) (r:Env) (ι:Nat→Value) (S:Nat→Prop) (a:Act) (w:World):Prop where
 s0:∀b,S0 b→S b
 sn:∀b,S b→S0 b∨M0 b∨w0.heap.size≤b
 sb:∀b,S b→b<w.heap.size
 tms:∀t v,r.get t=some v→RSV ι θ S w v (a.tmps.getD t undef)
 obs:∀n o,r.obj n=some o→ROb ι θ S w n o
 own:∀n o b,r.obj n=some o→blk (ι n)=some b→¬S b∧(M0 b∨w0.heap.size≤b)
 inj:∀n m o o' b,r.obj n=some o→r.obj m=some o'→blk (ι n)=some b→blk (ι m)=some b→n=m
 keep:Keep M0 w0 w
 size:a.tmps.size=N
 one:∀n,(ι n).oneCell'=true
 fx:∀n,parBase≤n→ι n=ι0 n
 dfs:a.defers=[]
theorem All2.length {α β:Type} {R:α→β→Prop} {xs:List α} {ys:List β} (h:All2 R xs ys):xs.length=ys.length:=by
 induction h with
 | nil=>rfl
 | cons _ _ ih=>simp[ih]
theorem All2.mono {α β:Type} {R R':α→β→Prop} {xs:List α} {ys:List β} (h:All2 R xs ys) (hr:∀x y,R x y→R' x y):All2 R' xs ys:=by
 induction h with
 | nil=>exact .nil
 | cons h _ ih=>exact .cons (hr _ _ h) ih
theorem All2.mono_mem {α β:Type} {R R':α→β→Prop} {xs:List α} {ys:List β} (h:All2 R xs ys) (hr:∀x y,x∈xs→R x y→R' x y):All2 R' xs ys:=by
 induction h with
 | nil=>exact .nil
 | cons h _ ih=>exact .cons (hr _ _ (by simp) h) (ih fun x y hx=>hr x y (by simp[hx]))
theorem All2.append {α β:Type} {R:α→β→Prop} {xs xs':List α} {ys ys':List β} (h:All2 R xs ys) (h':All2 R xs' ys'):All2 R (xs++xs') (ys++ys'):=by
 induction h with
 | nil=>exact h'
 | cons h _ ih=>exact .cons h ih
theorem All2.split {α β:Type} {R:α→β→Prop}:∀ {xs xs':List α} {ys:List β},All2 R (xs++xs') ys→∃y1 y2,ys=y1++y2∧All2 R xs y1∧All2 R xs' y2
 | [],_,ys,h=>⟨[],ys,rfl,.nil,h⟩
 | x :: xs,xs',_,.cons h hs=>by
  obtain ⟨y1,y2,rfl,h1,h2⟩:=All2.split hs
  exact ⟨_ :: y1,y2,rfl,.cons h h1,h2⟩
theorem All2.drop {α β:Type} {R:α→β→Prop} {xs:List α} {ys:List β} (h:All2 R xs ys):∀n,All2 R (xs.drop n) (ys.drop n):=by
 induction h with
 | nil=>intro n;simp;exact .nil
 | cons h hs ih=>intro n;cases n with
  | zero=>exact .cons h hs
  | succ n=>exact ih n
theorem All2.take {α β:Type} {R:α→β→Prop} {xs:List α} {ys:List β} (h:All2 R xs ys):∀n,All2 R (xs.take n) (ys.take n):=by
 induction h with
 | nil=>intro n;simp;exact .nil
 | cons h hs ih=>intro n;cases n with
  | zero=>exact .nil
  | succ n=>exact .cons h (ih n)
theorem nbeq (a b:Nat):Nat.beq a b=decide (a=b):=by
 by_cases h:a=b
 ·subst h;simp[Nat.beq_refl]
 ·rw[decide_eq_false h]
  cases hb:Nat.beq a b with
  | false=>rfl
  | true=>exact absurd (Nat.eq_of_beq_eq_true hb) h
theorem look_cons {α:Type} (k n:Nat) (v:α) (l:List (Nat×α)):look ((k,v) :: l) n=if k=n then some v else look l n:=by
 simp only[look,nbeq,Bool.cond_decide]
theorem mem_iff (n:Nat) (l:List Nat):mem n l=true↔n∈l:=by
 induction l with
 | nil=>simp[mem]
 | cons k l ih=>simp only[mem,Bool.or_eq_true,ih,List.mem_cons,nbeq,decide_eq_true_eq];exact or_congr ⟨Eq.symm,Eq.symm⟩ Iff.rfl
theorem mem_false (n:Nat) (l:List Nat):mem n l=false↔n ∉ l:=by rw[←mem_iff];simp
theorem look_del {α:Type} (k n:Nat) (l:List (Nat×α)):look (del k l) n=if k=n then none else look l n:=by
 induction l with
 | nil=>simp[del,look]
 | cons p l ih =>
  obtain ⟨j,v⟩:=p
  simp only[del,nbeq,Bool.cond_decide]
  by_cases h:j=k
  ·subst h
   rw[if_pos rfl,ih,look_cons]
   split <;> rfl
  ·rw[if_neg h,look_cons,look_cons,ih]
   by_cases h2:j=n
   ·subst h2;rw[if_pos rfl,if_pos rfl,if_neg (Ne.symm h)]
   ·rw[if_neg h2,if_neg h2]
def Same (S:Nat→Prop) (w w':World):Prop:=∀b,S b→w'.heap[b]? = w.heap[b]?
theorem Same.cell {S:Nat→Prop} {w w':World} (h:Same S w w') {b:Nat} (hb:S b) (o:Nat):w'.cell? ⟨b,o,none⟩=w.cell? ⟨b,o,none⟩ :=
 World.cell?_of_block (w:=w) (h b hb)
theorem Same.frozen {S:Nat→Prop} {w w':World} (h:Same S w w') {b:Nat} (hb:S b) (o:Nat):w'.frozen? ⟨b,o,none⟩=w.frozen? ⟨b,o,none⟩ :=
 World.frozen?_of_block (w:=w) (h b hb)
theorem CellsAt.same {S:Nat→Prop} {w w':World} (h:Same S w w') {b o:Nat} {vs:List Value} (hb:S b) (c:CellsAt w b o vs):CellsAt w' b o vs :=
 fun j v hv=>by rw[h.cell hb];exact c j v hv
theorem RepC.mono {θ:Nat→Value} {S S':Nat→Prop} {w w':World} (hs:∀b,S b→S' b) (h:Same S w w'):∀ {t:Ty} {x:t.den} {vs:List Value},RepC θ S w t x vs→RepC θ S' w' t x vs
 | .unit,_,_,c=>c
 | .pair _ _,_,_,⟨v1,v2,e,c1,c2⟩=>⟨v1,v2,e,c1.mono hs h,c2.mono hs h⟩
 | .int _,_,_,c=>c
 | .bool,_,_,c=>c
 | .str,_,_,c=>c
 | .opq,_,_,c=>c
 | .adr _,_,_,⟨b,o,ws,e,hb,c1,c2⟩=>⟨b,o,ws,e,hs b hb,c1.mono hs h,c2.same h hb⟩
 | .err,_,_,h=>h
 | .rd e,xs,_,⟨p,cap,e1,hc,c⟩=>⟨p,cap,e1,hc,c.imp id fun ⟨b,o,ep,hb,hx⟩=>⟨b,o,ep,hs b hb,fun i x hi =>
   let ⟨ws,c1,c2⟩:=hx i x hi
   ⟨ws,c1.mono hs h,c2.same h hb⟩⟩⟩
 | .lst e,xs,_,⟨p,cap,e1,hc,c⟩=>⟨p,cap,e1,hc,c.imp id fun ⟨b,o,ep,hb,hx⟩=>⟨b,o,ep,hs b hb,fun i x hi =>
   let ⟨ws,c1,c2⟩:=hx i x hi
   ⟨ws,c1.mono hs h,c2.same h hb⟩⟩⟩
theorem RepC.len {θ:Nat→Value} {S:Nat→Prop} {w:World}:∀ {t:Ty} {x:t.den} {vs:List Value},RepC θ S w t x vs→vs.length=t.size
 | .unit,_,_,c=>by rw[c];rfl
 | .pair a b,_,_,⟨v1,v2,e,c1,c2⟩=>by rw[e,List.length_append,c1.len,c2.len];rfl
 | .int _,_,_,c=>by rw[c];rfl
 | .bool,_,_,c=>by rw[c];rfl
 | .str,_,_,c=>by rw[c];rfl
 | .opq,_,_,c=>by rw[c];rfl
 | .adr _,_,_,⟨b,o,ws,e,_⟩=>by rw[e];rfl
 | .err,_,_,⟨V,e,_⟩=>by rw[e];rfl
 | .rd e,xs,_,⟨p,cap,e1,hc,c⟩=>by rw[e1];rfl
 | .lst e,xs,_,⟨p,cap,e1,hc,c⟩=>by rw[e1];rfl
theorem RCV.mono {ι ι' θ:Nat→Value} {S S':Nat→Prop} {w w':World} (hs:∀b,S b→S' b) (h:Same S w w') {c:CV} (hi:∀n,n∈c.names→ι' n=ι n) {V:Value} (k:RCV ι θ S w c V):RCV ι' θ S' w' c V:=by
 cases c with
 | int _ _=>exact k
 | bool _=>exact k
 | str _=>exact k
 | val _=>exact k
 | opq _=>exact k
 | err _=>exact k
 | clo h' b f y t x=>obtain ⟨vs,us,e,k1,k2⟩:=k;exact ⟨vs,us,e,k1.mono hs h,k2.mono hs h⟩
 | sl n=>exact k.trans (hi n (by simp[CV.names])).symm
 | imm e xs=>exact RepC.mono hs h k
 | ref n off=>obtain ⟨b,h1,h2⟩:=k;exact ⟨b,(hi n (by simp[CV.names])).trans h1,h2⟩
 | elm n e i off=>obtain ⟨b,o,l,cp,h1,h2⟩:=k;exact ⟨b,o,l,cp,(hi n (by simp[CV.names])).trans h1,h2⟩
 | idx t x off=>obtain ⟨b,o,ws,h1,h2,h3,h4⟩:=k;exact ⟨b,o,ws,h1,hs b h2,h3.mono hs h,h4.same h h2⟩
theorem cnames_mem {cs:List CV} {c:CV} (h:c∈cs) {n:Nat} (hn:n∈c.names):n∈cnames cs:=by
 induction cs with
 | nil=>cases h
 | cons d ds ih =>
  simp only[cnames,List.mem_append]
  rcases List.mem_cons.1 h with rfl | h
  ·exact .inl hn
  ·exact .inr (ih h)
theorem tnames_mem {vs:List TV} {v:TV} (h:v∈vs) {n:Nat} (hn:n∈v.names):n∈tnames vs:=by
 induction vs with
 | nil=>cases h
 | cons d ds ih =>
  simp only[tnames,List.mem_append]
  rcases List.mem_cons.1 h with rfl | h
  ·exact .inl hn
  ·exact .inr (ih h)
theorem RTV.mono {ι ι' θ:Nat→Value} {S S':Nat→Prop} {w w':World} (hs:∀b,S b→S' b) (h:Same S w w') {v:TV} (hi:∀n,n∈v.names→ι' n=ι n) {V:Value} (k:RTV ι θ S w v V):RTV ι' θ S' w' v V:=by
 cases v with
 | one c=>exact RCV.mono hs h (fun n hn=>hi n (by simpa [TV.names,cellsOf,cnames] using hn)) k
 | agg cs =>
  obtain ⟨vs,e,k⟩:=k
  exact ⟨vs,e,k.mono_mem fun c V hc hk=>RCV.mono hs h (fun n hn=>hi n (cnames_mem hc hn)) hk⟩
theorem RSV.mono {ι ι' θ:Nat→Value} {S S':Nat→Prop} {w w':World} (hs:∀b,S b→S' b) (h:Same S w w') {v:SV} (hi:∀n,n∈v.names→ι' n=ι n) {V:Value} (k:RSV ι θ S w v V):RSV ι' θ S' w' v V:=by
 cases v with
 | t v=>exact RTV.mono hs h hi k
 | tup vs =>
  obtain ⟨us,e,k⟩:=k
  exact ⟨us,e,k.mono_mem fun c V hc hk=>RTV.mono hs h (fun n hn=>hi n (tnames_mem hc hn)) hk⟩
theorem ROb.mono {ι ι' θ:Nat→Value} {S S':Nat→Prop} {w w':World} (hs:∀b,S b→S' b) (h:Same S w w') (hz:w.heap.size≤w'.heap.size) {n:Nat} {o:Ob} (hn:ι' n=ι n) (hi:∀m,m∈o.names→ι' m=ι m)
  (hb:∀b,blk (ι n)=some b→w'.heap[b]? = w.heap[b]?) (k:ROb ι θ S w n o):ROb ι' θ S' w' n o:=by
 cases o with
 | row e xs =>
  obtain ⟨h0,p,cap,h1,h2,h3⟩:=k
  refine ⟨h0,p,cap,hn.trans h1,h2,?_⟩
  by_cases hc:cap=0
  ·exact .inl hc
  ·refine .inr ?_
   obtain ⟨b,o,rfl,h4,h5⟩:=h3.resolve_left hc
   have hB:Same (· = b) w w':=fun b' e=>by subst e;exact hb _ (by rw[h1];simp[blk,hc])
   refine ⟨b,o,rfl,fun k hk=>by rw[hB.cell rfl,hB.frozen rfl];exact h4 k hk,fun i x hx=>?_⟩
   obtain ⟨ws,h6,h7⟩:=h5 i x hx
   exact ⟨ws,h6.mono hs h,h7.same hB rfl⟩
 | box cs =>
  obtain ⟨b,vs,h1,h2,h3,h4,h5⟩:=k
  have hB:Same (· = b) w w':=fun b' e=>by subst e;exact hb _ (by rw[h1];simp[blk])
  exact ⟨b,vs,hn.trans h1,by omega,h3.mono_mem fun c V hc hk=>RCV.mono hs h (fun m hm=>hi m (cnames_mem hc hm)) hk,h4.same hB rfl,fun j hj=>by rw[hB.frozen rfl];exact h5 j hj⟩
theorem RepC.cells {ι θ:Nat→Value} {S:Nat→Prop} {w:World}:∀ {t:Ty} {x:t.den} {vs:List Value},RepC θ S w t x vs→All2 (RCV ι θ S w) (toCells t x) vs
 | .unit,_,_,c=>by rw[c];exact .nil
 | .pair a b,_,_,⟨v1,v2,e,c1,c2⟩=>by rw[e];exact c1.cells.append c2.cells
 | .int _,_,_,c=>by rw[c];exact .cons rfl .nil
 | .bool,_,_,c=>by rw[c];exact .cons rfl .nil
 | .str,_,_,c=>by rw[c];exact .cons rfl .nil
 | .opq,_,_,c=>by rw[c];exact .cons rfl .nil
 | .adr _,_,_,⟨b,o,ws,e,hb,c1,c2⟩=>by rw[e];exact .cons ⟨b,o,ws,rfl,hb,c1,c2⟩ .nil
 | .err,_,_,⟨V,e,h⟩=>by rw[e];exact .cons h .nil
 | .rd e,xs,_,⟨p,cap,e1,hc,c⟩=>by rw[e1];exact .cons ⟨p,cap,rfl,hc,c⟩ .nil
 | .lst e,xs,_,⟨p,cap,e1,hc,c⟩=>by rw[e1];exact .cons ⟨p,cap,rfl,hc,c⟩ .nil
end Go.VM
namespace Go.VM
open Go.RowKit
variable {θ:Nat→Value} {N:Nat} {w0:World} {M0 S0:Nat→Prop} {ι0:Nat→Value} {r:Env} {ι:Nat→Value} {S:Nat→Prop} {a:Act} {w:World} {R:Type}
structure Prot (r r':Env):Prop where
 rt:r'.rt=r.rt
 rn:r'.rn=r.rn
 tm:∀t,t∈r.rt→r'.get t=r.get t
 ob:∀n,n∈r.rn→r'.obj n=r.obj n
theorem Prot.refl (r:Env):Prot r r:=⟨rfl,rfl,fun _ _=>rfl,fun _ _=>rfl⟩
theorem Prot.trans {r1 r2 r3:Env} (h:Prot r1 r2) (k:Prot r2 r3):Prot r1 r3 :=
 ⟨k.rt.trans h.rt,k.rn.trans h.rn,fun t ht=>(k.tm t (h.rt ▸ ht)).trans (h.tm t ht),fun n hn=>(k.ob n (h.rn ▸ hn)).trans (h.ob n hn)⟩
theorem grd_some {b:Bool} {x:Option R} {q:R} (h:grd b x=some q):b=true∧x=some q:=by
 cases b with
 | true=>exact ⟨rfl,h⟩
 | false=>cases h
theorem bif_some {b:Bool} {x:Option R} {q:R} (h:(bif b then x else none)=some q):b=true∧x=some q:=grd_some h
theorem put_getD (a:Act) (d t:Nat) (V:Value) (h:d<a.tmps.size):(a.put (some d) V).tmps.getD t undef=if d=t then V else a.tmps.getD t undef:=by
 simp only[Act.put,Array.getD_eq_getD_getElem?]
 rw[Array.getElem?_setIfInBounds]
 by_cases e:d=t
 ·subst e;simp[h]
 ·simp[e]
theorem put_size (a:Act) (d:Option Nat) (V:Value):(a.put d V).tmps.size=a.tmps.size:=by
 cases d <;> simp[Act.put]
theorem put_defers (a:Act) (d:Option Nat) (V:Value):(a.put d V).defers=a.defers:=by
 cases d <;> rfl
theorem put_ok {d:Option Nat} {v:SV} {k:Env→Option R} {q:R} {V:Value} (h:r.put N d v k=some q) (W:RepW θ N w0 M0 S0 ι0 r ι S a w) (hv:RSV ι θ S w v V) :
  ∃r',k r'=some q∧RepW θ N w0 M0 S0 ι0 r' ι S (a.put d V) w∧Prot r r'∧r'.ob=r.ob:=by
 cases d with
 | none=>exact ⟨r,h,W,.refl r,rfl⟩
 | some t =>
  obtain ⟨hb,h⟩:=bif_some h
  simp only[Bool.and_eq_true,Nat.blt_eq,Bool.not_eq_true',mem_false] at hb
  have hg:∀s,Env.get { r with tm:=(t,v) :: del t r.tm } s=if t=s then some v else r.get s:=fun s=>by
   show look _ _=_
   rw[look_cons,look_del]
   by_cases e:t=s
   ·rw[if_pos e,if_pos e]
   ·rw[if_neg e,if_neg e,if_neg e];rfl
  refine ⟨_,h,⟨W.s0,W.sn,W.sb,fun s u hu=>?_,W.obs,W.own,W.inj,W.keep,by rw[put_size];exact W.size,W.one,W.fx,by rw[put_defers];exact W.dfs⟩,⟨rfl,rfl,fun s hs=>?_,fun _ _=>rfl⟩,rfl⟩
  ·rw[put_getD a t s V (by rw[W.size];exact hb.1)]
   rw[hg] at hu
   split at hu
   ·rename_i e;rw[if_pos e,←Option.some.inj hu];exact hv
   ·rename_i e;rw[if_neg e];exact W.tms s u hu
  ·rw[hg,if_neg (fun e=>hb.2 (by rw[e];exact hs))]
theorem RepW.change {r':Env} {w':World} (W:RepW θ N w0 M0 S0 ι0 r ι S a w) (D:Nat→Prop) (hos:w'.os=w.os) (htp:w'.tape=w.tape) (hou:w'.output=w.output) (hz:w.heap.size≤w'.heap.size)
  (hB:∀b,b<w.heap.size→(∀n o,D n→r.obj n=some o→blk (ι n)≠some b)→w'.heap[b]? = w.heap[b]?)
  (htm:r'.tm=r.tm) (hob:∀n o,¬D n→r'.obj n=some o→r.obj n=some o)
  (hD:∀n o,D n→r'.obj n=some o→ROb ι θ S w' n o∧∃o',r.obj n=some o'):RepW θ N w0 M0 S0 ι0 r' ι S a w':=by
 have hS:Same S w w':=fun b hb=>hB b (W.sb b hb) fun n o _ ho e=>(W.own n o b ho e).1 hb
 have hex:∀n o,r'.obj n=some o→∃o',r.obj n=some o':=fun n o ho=>by
  by_cases hn:D n
  ·exact (hD n o hn ho).2
  ·exact ⟨o,hob n o hn ho⟩
 refine ⟨W.s0,W.sn,fun b hb=>Nat.lt_of_lt_of_le (W.sb b hb) hz,fun t v hv=>?_,fun n o ho=>?_,fun n o b ho hb=>?_,fun n m o o' b hn hm hbn hbm=>?_,?_,W.size,W.one,W.fx,W.dfs⟩
 ·exact RSV.mono (fun _ h=>h) hS (fun _ _=>rfl) (W.tms t v (by unfold Env.get at hv ⊢;rw[←htm];exact hv))
 ·by_cases hn:D n
  ·exact (hD n o hn ho).1
  ·have ho':=hob n o hn ho
   have hk:=W.obs n o ho'
   refine ROb.mono (fun _ h=>h) hS hz rfl (fun _ _=>rfl) (fun b hb=>hB b ?_ fun m om hm hom e=>?_) hk
   ·cases o with
    | row e xs =>
     obtain ⟨h0,p,cap,h1,h2,h3⟩:=hk
     have hc:cap≠0:=fun hc=>by rw[h1] at hb;subst hc;cases p <;> simp[blk] at hb
     obtain ⟨b',o',rfl,h4,_⟩:=h3.resolve_left hc
     obtain ⟨⟨v,hv⟩,_⟩:=h4 0 (Nat.mul_pos bo% h0)
     have:b'=b:=by rw[h1] at hb;simpa [blk,hc] using hb
     subst this
     exact World.block_lt_of_cell? (h:=hv)
    | box cs =>
     obtain ⟨b',vs,h1,h2,_⟩:=hk
     have:b'=b:=by rw[h1] at hb;simpa [blk] using hb
     subst this
     exact h2
   ·exact hn (W.inj m n om o b hom ho' e hb ▸ hm)
 ·obtain ⟨o',ho'⟩:=hex n o ho
  exact W.own n o' b ho' hb
 ·obtain ⟨p,hp⟩:=hex n o hn
  obtain ⟨p',hp'⟩:=hex m o' hm
  exact W.inj n m p p' b hp hp' hbn hbm
 ·refine ⟨hos.trans W.keep.os,htp.trans W.keep.tape,hou.trans W.keep.output,Nat.le_trans W.keep.size hz,fun k hk hm=>?_⟩
  rw[hB k (Nat.lt_of_lt_of_le hk W.keep.size) fun n o _ ho e=>?_]
  ·exact W.keep.block k hk hm
  ·rcases (W.own n o k ho e).2 with h | h
   ·exact hm h
   ·omega
theorem RepW.below {w':World} (W:RepW θ N w0 M0 S0 ι0 r ι S a w) (h:Below w.heap.size w w'):RepW θ N w0 M0 S0 ι0 r ι S a w' :=
 W.change (fun _=>False) h.os h.tape h.output h.size (fun b hb _=>h.block b hb) rfl (fun _ _ _ h=>h) (fun _ _ h=>h.elim)
def upd (ι:Nat→Value) (n:Nat) (V:Value) (m:Nat):Value:=if m=n then V else ι m
theorem upd_same (ι:Nat→Value) (n:Nat) (V:Value):upd ι n V n=V:=by simp[upd]
theorem upd_ne {ι:Nat→Value} {n m:Nat} {V:Value} (h:m≠n):upd ι n V m=ι m:=by simp[upd,h]
theorem freshT_ok {n:Nat}:∀ {l:List (Nat×SV)},freshT n l=true→∀t v,look l t=some v→n ∉ v.names
 | [],_,t,v,h=>by cases h
 | (k,u) :: l,hf,t,v,h=>by
  simp only[freshT,Bool.and_eq_true,Bool.not_eq_true',mem_false] at hf
  rw[look_cons] at h
  split at h
  ·rw[←Option.some.inj h];exact hf.1
  ·exact freshT_ok hf.2 t v h
theorem freshO_ok {n:Nat}:∀ {l:List (Nat×Ob)},freshO n l=true→∀t v,look l t=some v→n ∉ v.names∧t≠n
 | [],_,t,v,h=>by cases h
 | (k,u) :: l,hf,t,v,h=>by
  simp only[freshO,Bool.and_eq_true,Bool.not_eq_true',mem_false,nbeq,decide_eq_false_iff_not] at hf
  rw[look_cons] at h
  split at h
  ·rename_i e;rw[←Option.some.inj h];exact ⟨hf.1.2,e ▸ hf.1.1⟩
  ·exact freshO_ok hf.2 t v h
theorem RepW.blk_lt (W:RepW θ N w0 M0 S0 ι0 r ι S a w) {n:Nat} {o:Ob} {b:Nat} (ho:r.obj n=some o) (hb:blk (ι n)=some b):b<w.heap.size:=by
 have hk:=W.obs n o ho
 cases o with
 | row e xs =>
  obtain ⟨h0,p,cap,h1,h2,h3⟩:=hk
  have hc:cap≠0:=fun hc=>by rw[h1] at hb;subst hc;cases p <;> simp[blk] at hb
  obtain ⟨b',o',rfl,h4,_⟩:=h3.resolve_left hc
  obtain ⟨⟨v,hv⟩,_⟩:=h4 0 (Nat.mul_pos bo% h0)
  have:b'=b:=by rw[h1] at hb;simpa [blk,hc] using hb
  subst this
  exact World.block_lt_of_cell? (h:=hv)
 | box cs =>
  obtain ⟨b',vs,h1,h2,_⟩:=hk
  have:b'=b:=by rw[h1] at hb;simpa [blk] using hb
  subst this
  exact h2
theorem new_ok {n:Nat} {o:Ob} {k:Env→Option R} {q:R} {V:Value} (h1V:V.oneCell'=true) (h:r.new n o k=some q) (W:RepW θ N w0 M0 S0 ι0 r ι S a w)
  (hV:ROb (upd ι n V) θ S w n o) (hb:∀b,blk V=some b→(¬S b∧(M0 b∨w0.heap.size≤b))∧∀m o',r.obj m=some o'→blk (ι m)≠some b) :
  ∃r',k r'=some q∧RepW θ N w0 M0 S0 ι0 r' (upd ι n V) S a w∧Prot r r'∧r'.obj n=some o∧r'.tm=r.tm∧∀m,m≠n→r'.obj m=r.obj m:=by
 obtain ⟨hf,h⟩:=bif_some h
 simp only[Env.fresh,Bool.and_eq_true,Bool.not_eq_true',mem_false,Nat.blt_eq] at hf
 obtain ⟨⟨⟨hft,hfo⟩,hrn⟩,hnp⟩:=hf
 have hg:∀s,Env.obj { r with ob:=(n,o) :: r.ob } s=if n=s then some o else r.obj s:=fun s=>look_cons _ _ _ _
 have hne:∀ {m p},r.obj m=some p→m≠n:=fun hm=>(freshO_ok hfo _ _ hm).2
 refine ⟨_,h,⟨W.s0,W.sn,W.sb,fun t v hv=>?_,fun m p hm=>?_,fun m p b hm hmb=>?_,fun m m' p p' b hm hm' hmb hmb'=>?_,W.keep,W.size,fun m=>by unfold upd;split;exact h1V;exact W.one m,fun m hm=>by rw[upd_ne (show m≠n from fun e=>by subst e;omega)];exact W.fx m hm,W.dfs⟩,
  ⟨rfl,rfl,fun _ _=>rfl,fun m hm=>by rw[hg,if_neg (show ¬n=m from fun e=>hrn (e ▸ hm))]⟩,by rw[hg,if_pos rfl],rfl,fun m hm=>by rw[hg,if_neg (Ne.symm hm)]⟩
 ·have hn:=freshT_ok hft t v hv
  exact RSV.mono (fun _ h=>h) (fun _ _=>rfl) (fun m hm=>upd_ne (show m≠n from fun e=>hn (e ▸ hm))) (W.tms t v hv)
 ·rw[hg] at hm
  split at hm
  ·rename_i e;subst e;rw[←Option.some.inj hm];exact hV
  ·have hn:=freshO_ok hfo m p hm
   exact ROb.mono (fun _ h=>h) (fun _ _=>rfl) (Nat.le_refl _) (upd_ne hn.2) (fun m' hm'=>upd_ne (show m'≠n from fun e=>hn.1 (e ▸ hm'))) (fun _ _=>rfl) (W.obs m p hm)
 ·rw[hg] at hm
  split at hm
  ·rename_i e;subst e;rw[upd_same] at hmb;exact (hb b hmb).1
  ·rw[upd_ne (hne hm)] at hmb;exact W.own m p b hm hmb
 ·rw[hg] at hm hm'
  split at hm
  ·rename_i e
   subst e
   split at hm'
   ·assumption
   ·rw[upd_ne (hne hm')] at hmb'
    rw[upd_same] at hmb
    exact absurd hmb' ((hb b hmb).2 _ _ hm')
  ·rw[upd_ne (hne hm)] at hmb
   split at hm'
   ·rename_i e
    subst e
    rw[upd_same] at hmb'
    exact absurd hmb ((hb b hmb').2 _ _ hm)
   ·rw[upd_ne (hne hm')] at hmb'
    exact W.inj m m' p p' b hm hm' hmb hmb'
theorem upd_ok {n:Nat} {o o0:Ob} {k:Env→Option R} {q:R} {w':World} (h:r.upd n o k=some q) (W:RepW θ N w0 M0 S0 ι0 r ι S a w) (h0:r.obj n=some o0)
  (hos:w'.os=w.os) (htp:w'.tape=w.tape) (hou:w'.output=w.output) (hz:w.heap.size≤w'.heap.size)
  (hB:∀b,b<w.heap.size→blk (ι n)≠some b→w'.heap[b]? = w.heap[b]?) (hV:ROb ι θ S w' n o) :
  ∃r',k r'=some q∧RepW θ N w0 M0 S0 ι0 r' ι S a w'∧Prot r r'∧r'.tm=r.tm∧r'.obj n=some o∧∀m,m≠n→r'.obj m=r.obj m:=by
 obtain ⟨hf,h⟩:=bif_some h
 simp only[Bool.not_eq_true',mem_false] at hf
 have hg:∀s,Env.obj { r with ob:=(n,o) :: del n r.ob } s=if n=s then some o else r.obj s:=fun s=>by
  show look _ _=_
  rw[look_cons,look_del]
  by_cases e:n=s
  ·rw[if_pos e,if_pos e]
  ·rw[if_neg e,if_neg e,if_neg e];rfl
 refine ⟨_,h,W.change (· = n) hos htp hou hz (fun b hb hn=>hB b hb (hn n o0 rfl h0)) rfl (fun m p hm hp=>by rw[hg,if_neg (fun e=>hm e.symm)] at hp;exact hp)
  (fun m p hm hp=>?_),⟨rfl,rfl,fun _ _=>rfl,fun m hm=>by rw[hg,if_neg (show ¬n=m from fun e=>hf (e ▸ hm))]⟩,rfl,by rw[hg,if_pos rfl],fun m hm=>by rw[hg,if_neg (Ne.symm hm)]⟩
 subst hm
 rw[hg,if_pos rfl] at hp
 rw[←Option.some.inj hp]
 exact ⟨hV,o0,h0⟩
theorem drop_ok {n:Nat} {o0:Ob} {k:Env→Option R} {q:R} {w':World} (h:r.drop n k=some q) (W:RepW θ N w0 M0 S0 ι0 r ι S a w) (h0:r.obj n=some o0)
  (hos:w'.os=w.os) (htp:w'.tape=w.tape) (hou:w'.output=w.output) (hz:w.heap.size≤w'.heap.size)
  (hB:∀b,b<w.heap.size→blk (ι n)≠some b→w'.heap[b]? = w.heap[b]?) :
  ∃r',k r'=some q∧RepW θ N w0 M0 S0 ι0 r' ι S a w'∧Prot r r'∧r'.tm=r.tm∧r'.obj n=none∧∀m,m≠n→r'.obj m=r.obj m:=by
 obtain ⟨hf,h⟩:=bif_some h
 simp only[Bool.not_eq_true',mem_false] at hf
 have hg:∀s,Env.obj { r with ob:=del n r.ob } s=if n=s then none else r.obj s:=fun s=>look_del _ _ _
 refine ⟨_,h,W.change (· = n) hos htp hou hz (fun b hb hn=>hB b hb (hn n o0 rfl h0)) rfl (fun m p hm hp=>by rw[hg,if_neg (fun e=>hm e.symm)] at hp;exact hp)
  (fun m p hm hp=>?_),⟨rfl,rfl,fun _ _=>rfl,fun m hm=>by rw[hg,if_neg (show ¬n=m from fun e=>hf (e ▸ hm))]⟩,rfl,by rw[hg,if_pos rfl],fun m hm=>by rw[hg,if_neg (Ne.symm hm)]⟩
 subst hm
 rw[hg,if_pos rfl] at hp
 cases hp
theorem look_mapV {α β:Type} (f:α→β) (n:Nat):∀l:List (Nat×α),look (mapV f l) n=(look l n).map f
 | []=>rfl
 | (k,v) :: l=>by
  simp only[mapV]
  rw[look_cons,look_cons,look_mapV f n l]
  split <;> rfl
theorem clearT_ok {n:Nat} {rt:List Nat}:∀ {l:List (Nat×SV)},clearT n rt l=true→∀t v,look l t=some v→t∈rt→n ∉ v.names
 | [],_,t,v,h=>by cases h
 | (k,u) :: l,hf,t,v,h=>by
  simp only[clearT,Bool.and_eq_true,Bool.or_eq_true,Bool.not_eq_true',mem_false] at hf
  rw[look_cons] at h
  intro ht
  split at h
  ·rename_i e;rw[←Option.some.inj h];exact hf.1.resolve_left (fun hk=>hk (e ▸ ht))
  ·exact clearT_ok hf.2 t v h ht
theorem clearO_ok {n:Nat} {rt:List Nat}:∀ {l:List (Nat×Ob)},clearO n rt l=true→∀t v,look l t=some v→t∈rt→n ∉ v.names
 | [],_,t,v,h=>by cases h
 | (k,u) :: l,hf,t,v,h=>by
  simp only[clearO,Bool.and_eq_true,Bool.or_eq_true,Bool.not_eq_true',mem_false] at hf
  rw[look_cons] at h
  intro ht
  split at h
  ·rename_i e;rw[←Option.some.inj h];exact hf.1.resolve_left (fun hk=>hk (e ▸ ht))
  ·exact clearO_ok hf.2 t v h ht
theorem CV.frz_not {n:Nat} {e:Ty} {xs:List e.den} {c:CV} (h:n ∉ c.names):c.frz n e xs=c:=by
 cases c <;> try rfl
 rename_i m
 simp only[CV.names,List.mem_singleton] at h
 simp only[CV.frz,nbeq,Bool.cond_decide,if_neg (Ne.symm h)]
theorem cfrz_not {n:Nat} {e:Ty} {xs:List e.den}:∀ {cs:List CV},n ∉ cnames cs→cs.map (·.frz n e xs)=cs
 | [],_=>rfl
 | c :: cs,h=>by
  simp only[cnames,List.mem_append,not_or] at h
  rw[List.map_cons,CV.frz_not h.1,cfrz_not h.2]
theorem TV.frz_not {n:Nat} {e:Ty} {xs:List e.den} {v:TV} (h:n ∉ v.names):v.frz n e xs=v:=by
 cases v with
 | one c=>simp only[TV.names,cellsOf,cnames,List.append_nil] at h;simp[TV.frz,CV.frz_not h]
 | agg cs=>simp only[TV.names,cellsOf] at h;simp[TV.frz,cfrz_not h]
theorem tfrz_not {n:Nat} {e:Ty} {xs:List e.den}:∀ {vs:List TV},n ∉ tnames vs→vs.map (·.frz n e xs)=vs
 | [],_=>rfl
 | c :: cs,h=>by
  simp only[tnames,List.mem_append,not_or] at h
  rw[List.map_cons,TV.frz_not h.1,tfrz_not h.2]
theorem SV.frz_not {n:Nat} {e:Ty} {xs:List e.den} {v:SV} (h:n ∉ v.names):v.frz n e xs=v:=by
 cases v with
 | t v=>simp only[SV.frz,TV.frz_not h]
 | tup vs=>simp only[SV.frz,tfrz_not h]
theorem Ob.frz_not {n:Nat} {e:Ty} {xs:List e.den} {v:Ob} (h:n ∉ v.names):v.frz n e xs=v:=by
 cases v with
 | row _ _=>rfl
 | box cs=>simp only[Ob.frz,cfrz_not h]
theorem All2.map_l {α β γ:Type} {Q:α→β→Prop} {Q':γ→β→Prop} (f:α→γ) {xs:List α} {ys:List β} (h:All2 Q xs ys) (hf:∀x y,Q x y→Q' (f x) y):All2 Q' (xs.map f) ys:=by
 induction h with
 | nil=>exact .nil
 | cons h _ ih=>exact .cons (hf _ _ h) ih
section
variable {n:Nat} {e:Ty} {xs:List e.den} {S':Nat→Prop}
theorem RCV.frz (hs:∀b,S b→S' b) (hn:RepC θ S' w (.lst e) xs [ι n]) {c:CV} {V:Value} (h:RCV ι θ S w c V):RCV ι θ S' w (c.frz n e xs) V:=by
 have h':RCV ι θ S' w c V:=RCV.mono hs (fun _ _=>rfl) (fun _ _=>rfl) h
 cases c <;> try exact h'
 rename_i m
 simp only[CV.frz,nbeq,Bool.cond_decide]
 split
 ·rename_i e';subst e';rw[show V=ι m from h];exact hn
 ·exact h'
theorem RTV.frz (hs:∀b,S b→S' b) (hn:RepC θ S' w (.lst e) xs [ι n]) {v:TV} {V:Value} (h:RTV ι θ S w v V):RTV ι θ S' w (v.frz n e xs) V:=by
 cases v with
 | one c=>exact RCV.frz hs hn h
 | agg cs=>obtain ⟨vs,h1,h2⟩:=h;exact ⟨vs,h1,h2.map_l _ fun c V h=>RCV.frz hs hn h⟩
theorem RSV.frz (hs:∀b,S b→S' b) (hn:RepC θ S' w (.lst e) xs [ι n]) {v:SV} {V:Value} (h:RSV ι θ S w v V):RSV ι θ S' w (v.frz n e xs) V:=by
 cases v with
 | t v=>exact RTV.frz hs hn h
 | tup vs=>obtain ⟨us,h1,h2⟩:=h;exact ⟨us,h1,h2.map_l _ fun c V h=>RTV.frz hs hn h⟩
theorem ROb.frz (hs:∀b,S b→S' b) (hn:RepC θ S' w (.lst e) xs [ι n]) {m:Nat} {o:Ob} (h:ROb ι θ S w m o):ROb ι θ S' w m (o.frz n e xs):=by
 cases o with
 | row e' ys=>exact ROb.mono hs (fun _ _=>rfl) (Nat.le_refl _) rfl (fun _ _=>rfl) (fun _ _=>rfl) h
 | box cs =>
  obtain ⟨b,vs,h1,h2,h3,h4,h5⟩:=h
  exact ⟨b,vs,h1,h2,h3.map_l _ fun c V h=>RCV.frz hs hn h,h4,h5⟩
end
theorem row_imm {S':Nat→Prop} {n:Nat} {e:Ty} {xs:List e.den} (hs:∀b,S b→S' b) (h:ROb ι θ S w n (.row e xs)) (hb:∀b,blk (ι n)=some b→S' b):RepC θ S' w (.lst e) xs [ι n]:=by
 obtain ⟨h0,p,cap,h1,h2,h3⟩:=h
 refine ⟨p,cap,by rw[h1],h2,?_⟩
 by_cases hc:cap=0
 ·left;exact List.eq_nil_of_length_eq_zero bo%
 ·right
  obtain ⟨b,o,rfl,h4,h5⟩:=h3.resolve_left hc
  exact ⟨b,o,rfl,hb b (by rw[h1];simp[blk,hc]),fun i x hx=>let ⟨ws,c1,c2⟩:=h5 i x hx;⟨ws,c1.mono hs (fun _ _=>rfl),c2⟩⟩
theorem freeze_ok {n:Nat} {k:Env→Option R} {q:R} (h:r.freeze n k=some q) (W:RepW θ N w0 M0 S0 ι0 r ι S a w) :
  ∃r' S',k r'=some q∧(∀b,S b→S' b)∧RepW θ N w0 M0 S0 ι0 r' ι S' a w∧Prot r r':=by
 unfold Env.freeze at h
 cases ho:r.obj n with
 | none=>rw[ho] at h;cases h
 | some o =>
  rw[ho] at h
  cases o with
  | box cs=>cases h
  | row e xs =>
   obtain ⟨hb,h⟩:=bif_some h
   simp only[Bool.and_eq_true,Bool.not_eq_true',mem_false] at hb
   obtain ⟨⟨hrn,hct⟩,hco⟩:=hb
   have hgt:∀t,Env.get { r with tm:=mapV (·.frz n e xs) r.tm,ob:=mapV (·.frz n e xs) (del n r.ob) } t=(r.get t).map (·.frz n e xs):=fun t=>look_mapV _ _ _
   have hgo:∀t,Env.obj { r with tm:=mapV (·.frz n e xs) r.tm,ob:=mapV (·.frz n e xs) (del n r.ob) } t=if n=t then none else (r.obj t).map (·.frz n e xs):=fun t=>by
    show look _ _=_
    rw[look_mapV,look_del]
    split <;> rfl
   let S':Nat→Prop:=fun b=>S b∨blk (ι n)=some b
   have hs:∀b,S b→S' b:=fun b=>.inl
   have hn:RepC θ S' w (.lst e) xs [ι n]:=row_imm hs (W.obs n _ ho) (fun b hb=>.inr hb)
   have hsub:∀m o,Env.obj { r with tm:=mapV (·.frz n e xs) r.tm,ob:=mapV (·.frz n e xs) (del n r.ob) } m=some o→m≠n∧∃o',r.obj m=some o'∧o=o'.frz n e xs:=fun m o hm=>by
    rw[hgo] at hm
    split at hm
    ·cases hm
    ·rename_i hne
     obtain ⟨o',h1,h2⟩:=Option.map_eq_some_iff.1 hm
     exact ⟨Ne.symm hne,o',h1,h2.symm⟩
   refine ⟨_,S',h,hs,⟨fun b hb=>hs b (W.s0 b hb),fun b hb=>?_,fun b hb=>?_,fun t v hv=>?_,fun m o hm=>?_,fun m o b hm hb=>?_,fun m m' p p' b hm hm' hmb hmb'=>?_,W.keep,W.size,W.one,W.fx,W.dfs⟩,
    ⟨rfl,rfl,fun t ht=>?_,fun m hm=>?_⟩⟩
   ·rcases hb with hb | hb
    ·exact W.sn b hb
    ·exact .inr (W.own n _ b ho hb).2
   ·rcases hb with hb | hb
    ·exact W.sb b hb
    ·exact W.blk_lt ho hb
   ·rw[hgt] at hv
    obtain ⟨u,h1,rfl⟩:=Option.map_eq_some_iff.1 hv
    exact RSV.frz hs hn (W.tms t u h1)
   ·obtain ⟨_,o',h1,rfl⟩:=hsub m o hm
    exact ROb.frz hs hn (W.obs m o' h1)
   ·obtain ⟨hne,o',h1,rfl⟩:=hsub m o hm
    refine ⟨?_,(W.own m o' b h1 hb).2⟩
    rintro (h2 | h2)
    ·exact (W.own m o' b h1 hb).1 h2
    ·exact hne (W.inj m n o' _ b h1 ho hb h2)
   ·obtain ⟨_,o',h1,_⟩:=hsub m p hm
    obtain ⟨_,o'',h2,_⟩:=hsub m' p' hm'
    exact W.inj m m' o' o'' b h1 h2 hmb hmb'
   ·rw[hgt]
    cases hv:r.get t with
    | none=>rfl
    | some v=>rw[Option.map_some,SV.frz_not (clearT_ok hct t v hv ht)]
   ·rw[hgo,if_neg (show ¬n=m from fun e=>hrn (e ▸ hm))]
    cases hv:r.obj m with
    | none=>rfl
    | some v=>rw[Option.map_some,Ob.frz_not (clearO_ok hco m v hv hm)]
theorem freezeAll_ok {k:Env→Option R} {q:R}:∀ {ns:List Nat} {r:Env} {S:Nat→Prop},r.freezeAll ns k=some q→RepW θ N w0 M0 S0 ι0 r ι S a w →
  ∃r' S',k r'=some q∧(∀b,S b→S' b)∧RepW θ N w0 M0 S0 ι0 r' ι S' a w∧Prot r r'
 | [],r,S,h,W=>⟨r,S,by unfold Env.freezeAll at h;exact h,fun _ h=>h,W,.refl r⟩
 | n :: ns,r,S,h,W=>by
  unfold Env.freezeAll at h
  split at h
  ·obtain ⟨r1,S1,h1,hs1,W1,P1⟩:=freeze_ok h W
   obtain ⟨r2,S2,h2,hs2,W2,P2⟩:=freezeAll_ok h1 W1
   exact ⟨r2,S2,h2,fun b hb=>hs2 b (hs1 b hb),W2,P1.trans P2⟩
  ·exact freezeAll_ok h W
end Go.VM
namespace Go.VM
open Go.RowKit
inductive TyD (P:Program) (tys:List (Nat×Ty)):Ty→TypeDesc→Prop
 | int (k):TyD P tys (.int k) (.int k)
 | bool:TyD P tys .bool .bool
 | str:TyD P tys .str .string
 | lst (e te):look tys te=some e→TyD P tys (.lst e) (.slice te)
 | err (ms):TyD P tys .err (.interface ms)
 | struct (t:Ty) (fs:Array Field) (pl:List (Nat×Nat)):t.isS=true→(∀i off σ,t.field i=some (off,σ)→∃f,fs[i]? = some f∧f.offset=off∧look tys f.type=some σ) →
  fs.toList.mapM (fun f=>(P.info? f.type).map fun i=>(f.offset,i.size))=some pl→(∀i off σ,t.field i=some (off,σ)→pl[i]? = some (off,σ.size))→TyD P tys t (.struct fs)
structure TyF (P:Program) (tys:List (Nat×Ty)) (t:Nat) (τ:Ty):Prop where
 desc:∃d,P.underlying t=some d∧TyD P tys τ d
 info:∃i z vs,P.info? t=some i∧i.size=τ.size∧i.bytes≤1024∧i.zero=some z∧z.cells=⟨vs⟩∧All2 (RCV (fun _=>.nilFunc) (fun _=>.nilFunc) (fun _=>False) default) (zeroCells τ) vs
def TyOk (P:Program) (tys:List (Nat×Ty)):Prop:=∀t τ,look tys t=some τ→TyF P tys t τ
def chkEqF (ch:Nat→Ty→Bool):List Field→Nat→Ty→Bool
 | f :: fs,m,.pair a b=>(f.name != "_")&&Nat.beq f.offset m&&ch f.type a&&chkEqF ch fs (m+a.size) b
 | [],_,.unit=>true
 | _,_,_=>false
def chkEq (P:Program) (tys:List (Nat×Ty)):Nat→Nat→Ty→Bool
 | 0,_,_=>false
 | n+1,t,τ=>(match look tys t with | some τ'=>decide (τ'=τ) | none=>false)&&(match τ with
  | .int _=>true
  | .str=>true
  | .bool=>true
  | .lst _=>false
  | .opq=>false
  | .adr _=>false
  | .err=>false
  | .rd _=>false
  | _=>(match P.underlying t with
   | some (.struct fs)=>!P.stoodInHeld t&&chkEqF (chkEq P tys n) fs.toList 0 τ
   | _=>false))
def EqsOk (P:Program) (Γ:Ctx):Prop:=∀t τ,look Γ.eqs t=some τ→chkEq P Γ.tys 8 t τ=true∧P.eqGuardType P.depth t=false
def GlobOk (Γ:Ctx) (θ:Nat→Value) (S0:Nat→Prop) (w0:World):Prop :=
 Γ.wf S0 w0∧∀g p,look Γ.globs g=some p→hasOpq p.1=false∧S0 g∧∃ws,RepC θ S0 w0 p.1 p.2 ws∧CellsAt w0 g 0 ws
variable {P:Program} {Γ:Ctx} {θ:Nat→Value} {N:Nat} {w0:World} {M0 S0:Nat→Prop} {ι0:Nat→Value} {r:Env} {ι:Nat→Value} {S:Nat→Prop} {a:Act} {w:World} {R:Type}
 {o:Oper} {K':Act→World→Prop} {Q:Exit→Act→World→Prop} {k:Env→Option R} {q:R}
def aggOf (τ:Ty) (vs:List Value):Value:=if τ.isS then .agg ⟨vs⟩ else vs.headD undef
def Invk (P:Program) (g:Nat) (args:Array Value) (w:World) (Q:Ending→World→Prop):Prop :=
 ((callFunc g args).run P w=.ok (.enter g args) w∧Calls P g args w Q)∨(∃V w',(callFunc g args).run P w=.ok (.value V) w'∧Q (.returned V) w') ∨
  (∃row l w',(callFunc g args).run P w=.ok (.row row l) w'∧Rows P row l w' fun V w'=>Q (.returned V) w')
def RowAt (θ:Nat→Value) (S:Nat→Prop) (w:World) (e:Ty) (xs:List e.den) (V:Value):Prop:=ROb (fun _=>V) θ S w 0 (.row e xs)
def RowTo (θ:Nat→Value) (S:Nat→Prop) (w:World) (V:Value) (e:Ty) (ys:List e.den) (E:Ending) (W:World):Prop :=
 ∃V',E=.returned V'∧V'.oneCell'=true∧RowAt θ S W e ys V'∧Keep (fun b=>blk V=some b) w W∧∀b,blk V'=some b→blk V=some b∨w.heap.size≤b
def DelOk (P:Program) (g:Nat) (e:Ty):Prop :=
 ∀(θ:Nat→Value) (S:Nat→Prop) (w:World) (xs:List e.den) (V:Value) (i j:Nat),(∀n,(θ n).oneCell'=true)→(∀b,S b→b<w.heap.size)→RowAt θ S w e xs V→(∀b,blk V=some b→¬S b)→xs.length≤9223372036854775807→i≤j→j≤xs.length →
  Invk P g ⟨[V,.int .i64 i,.int .i64 j]⟩ w (RowTo θ S w V e (xs.take i++xs.drop j))
def KeepOk (P:Program) (g:Nat) (e:Ty):Prop :=
 ∀(θ:Nat→Value) (S:Nat→Prop) (w:World) (xs ys:List e.den) (V:Value) (h:Nat) (us:List Value) (pr:e.den→Option Bool),(∀n,(θ n).oneCell'=true)→(∀b,S b→b<w.heap.size)→RowAt θ S w e xs V→(∀b,blk V=some b→¬S b)→xs.length≤9223372036854775807→keepM pr xs=some ys →
  (∀args W,(callFunc h args).run P W=.ok (.enter h args) W) →
  (∀z b,z∈xs→pr z=some b→∀(S':Nat→Prop) (W:World) vs,(∀b,S b→S' b)→(∀b,S' b→b<w.heap.size)→Keep (fun b=>blk V=some b) w W→RepC θ S' W e z vs→Calls P h ⟨aggOf e vs :: us⟩ W fun E W'=>E=.returned (.bool b)∧Below W.heap.size W W') →
  Invk P g ⟨[V,.func (.func h) #[] ⟨us⟩]⟩ w (RowTo θ S w V e ys)
def SortOk (P:Program) (g:Nat) (e:Ty):Prop :=
 ∀(θ:Nat→Value) (S:Nat→Prop) (w:World) (xs ys:List e.den) (V:Value) (h:Nat) (us:List Value) (cm:e.den→e.den→Option Int),(∀n,(θ n).oneCell'=true)→(∀b,S b→b<w.heap.size)→RowAt θ S w e xs V→(∀b,blk V=some b→¬S b)→xs.length≤20→sortM cm [] xs=some ys →
  (∀args W,(callFunc h args).run P W=.ok (.enter h args) W) →
  (∀z1 z2 n,z1∈xs→z2∈xs→cm z1 z2=some n→∀(W:World) v1 v2,Keep (fun b=>blk V=some b) w W→RepC θ S W e z1 v1→RepC θ S W e z2 v2→Calls P h ⟨aggOf e v1 :: aggOf e v2 :: us⟩ W fun E W'=>E=.returned (.int .i64 n)∧Below W.heap.size W W') →
  Invk P g ⟨[V,.func (.func h) #[] ⟨us⟩]⟩ w fun E W=>E=.returned (.tuple #[])∧RowAt θ S W e ys V∧Keep (fun b=>blk V=some b) w W
def RfOk (P:Program) (g:Nat):Nat→Ty→Prop
 | 2,e=>DelOk P g e
 | 3,e=>KeepOk P g e
 | 4,e=>SortOk P g e
 | _,_=>True
def HoP (P:Program) (g:Nat) (kd:Nat×Ty):Prop :=
 ∀(θ:Nat→Value) (S:Nat→Prop) (w:World) (xs:List kd.2.den) (V:Value) (h:Nat) (first us:List Value) (pr:kd.2.den→Option Bool) (i:Option Nat),
  (∀n,(θ n).oneCell'=true)→(∀b,S b→b<w.heap.size)→RepC θ S w (.lst kd.2) xs [V]→xs.length≤9223372036854775807→idxM pr xs=some i →
  (∀args W,(callFunc h args).run P W=.ok (.enter h args) W) →
  (∀z b,z∈xs→pr z=some b→∀(W:World) vs,Below w.heap.size w W→RepC θ S W kd.2 z vs→Calls P h ⟨first++aggOf kd.2 vs :: us⟩ W fun E W'=>E=.returned (.bool b)∧Below w.heap.size w W') →
  Invk P g ⟨[V,.func (.func h) ⟨first⟩ ⟨us⟩]⟩ w fun E W'=>E=.returned (hoV kd.1 i)∧Below w.heap.size w W'
def HoOk (P:Program) (g:Nat) (kd:Nat×Ty):Prop:=(Nat.ble 2 kd.1=false→HoP P g kd)∧(Nat.ble 2 kd.1=true→RfOk P g kd.1 kd.2)
theorem HoP.ok {P:Program} {g:Nat} {kd:Nat×Ty} (h:HoP P g kd) (hk:Nat.ble 2 kd.1=false:=by rfl):HoOk P g kd:=⟨fun _=>h,fun h2=>by rw[hk] at h2;cases h2⟩
def EnOk (P:Program) (Γ:Ctx):Prop:=∀h,isPrg Γ h=true→∀args W,(callFunc h args).run P W=.ok (.enter h args) W
structure Base (P:Program) (Γ:Ctx) (θ:Nat→Value) (w0:World) (M0 S0:Nat→Prop):Prop where
 ty:TyOk P Γ.tys
 gl:GlobOk Γ θ S0 w0
 ds:∀b,S0 b→¬M0 b
 lt:∀b,S0 b→b<w0.heap.size
 one:∀n,(θ n).oneCell'=true
 mo:P.follows .mixedOrders=true
 eq:EqsOk P Γ
 ho:∀g kd,look Γ.ho g=some kd→HoOk P g kd
 en:EnOk P Γ
def Out (θ:Nat→Value) (N:Nat) (w0:World) (M0 S0:Nat→Prop) (ι0:Nat→Value) (k:Env→Option R) (q:R) (r:Env) (K':Act→World→Prop):Prop :=
 ∀r' ι' S' a' w',k r'=some q→RepW θ N w0 M0 S0 ι0 r' ι' S' a' w'→Prot r r'→K' a' w'
theorem ofVal_ok (v:Value):RCV ι θ S w (ofVal v) v:=by
 cases v <;> rfl
theorem ofVals_ok:∀vs:List Value,All2 (RCV ι θ S w) (vs.map ofVal) vs
 | []=>.nil
 | v :: vs=>.cons (ofVal_ok v) (ofVals_ok vs)
theorem ofValue_ok (v:Value):RSV ι θ S w (ofValue v) v:=by
 cases v with
 | agg cs=>exact ⟨cs.toList,rfl,ofVals_ok _⟩
 | tuple vs =>
  obtain ⟨l⟩:=vs
  cases l with
  | nil=>exact ⟨[],rfl,.nil⟩
  | cons x l=>exact (rfl:RCV ι θ S w (.val _) _)
 | _=>exact Eq.refl _
theorem eval_ok (B:Base P Γ θ w0 M0 S0) (W:RepW θ N w0 M0 S0 ι0 r ι S a w) {x:Operand} {v:SV} (h:r.eval Γ x=some v):RSV ι θ S w v (a.eval x):=by
 cases x with
 | tmp t=>exact W.tms t v h
 | const c=>rw[←Option.some.inj h];exact ofValue_ok c
 | func f=>cases h
 | global g =>
  simp only[Env.eval] at h
  split at h
  ·rename_i p hp
   rw[←Option.some.inj h]
   obtain ⟨_,hs,ws,h1,h2⟩:=B.gl.2 g p hp
   have hS:Same S0 w0 w:=fun b hb=>W.keep.block b (B.lt b hb) (B.ds b hb)
   exact ⟨g,0,ws,rfl,W.s0 g hs,h1.mono W.s0 hS,h2.same hS hs⟩
  ·cases h
theorem evc_ok (B:Base P Γ θ w0 M0 S0) (W:RepW θ N w0 M0 S0 ι0 r ι S a w) {x:Operand} {c:CV} (h:r.evc Γ x=some c):RCV ι θ S w c (a.eval x):=by
 unfold Env.evc at h
 split at h
 ·rename_i c' hc
  rw[←Option.some.inj h]
  exact eval_ok B W hc
 ·cases h
theorem wp_val {V:Value} {w':World} (h:(execOp a.eval o).run P w=.ok (.value V) w') (hk:K' (a.put o.dst V) w'):o.wp P a w K' Q:=by
 unfold Oper.wp;rw[h];exact hk
theorem wp_skp {w':World} (h:(execOp a.eval o).run P w=.ok .skip w') (hk:K' (a.put o.dst undef) w'):o.wp P a w K' Q:=by
 unfold Oper.wp;rw[h];exact hk
theorem fin {r1:Env} {ι1:Nat→Value} {S1:Nat→Prop} {V:Value} {w1:World} {v:SV} (hrun:(execOp a.eval o).run P w=.ok (.value V) w1) (h:r1.put N o.dst v k=some q) (W:RepW θ N w0 M0 S0 ι0 r1 ι1 S1 a w1) (p:Prot r r1)
  (hv:RSV ι1 θ S1 w1 v V) (hK:Out θ N w0 M0 S0 ι0 k q r K'):o.wp P a w K' Q:=by
 obtain ⟨r',h1,W',p',_⟩:=put_ok h W hv
 exact wp_val hrun (hK _ _ _ _ _ h1 W' (p.trans p'))
theorem fin_skp {r1:Env} {ι1:Nat→Value} {S1:Nat→Prop} {w1:World} (hrun:(execOp a.eval o).run P w=.ok .skip w1) (h:r1.put N o.dst undefV k=some q) (W:RepW θ N w0 M0 S0 ι0 r1 ι1 S1 a w1) (p:Prot r r1)
  (hK:Out θ N w0 M0 S0 ι0 k q r K'):o.wp P a w K' Q:=by
 obtain ⟨r',h1,W',p',_⟩:=put_ok (V:=undef) h W ⟨[],rfl,.nil⟩
 exact wp_skp hrun (hK _ _ _ _ _ h1 W' (p.trans p'))
theorem wrap_not {b:Bool} {x y:Option R} {z:R} (h:(bif b then x else y)=some z):(b=true∧x=some z)∨(b=false∧y=some z):=by
 cases b <;> simp_all
theorem move_ok (B:Base P Γ θ w0 M0 S0) (W:RepW θ N w0 M0 S0 ι0 r ι S a w) {x:Operand} (ho:o.op=.move x∨o.op=.assign x) (h:(match r.eval Γ x with | some v=>r.put N o.dst v k | none=>none)=some q)
  (hK:Out θ N w0 M0 S0 ι0 k q r K'):o.wp P a w K' Q:=by
 split at h
 ·rename_i v hv
  refine fin (V:=a.eval x) ?_ h W (.refl r) (eval_ok B W hv) hK
  rcases ho with ho | ho <;> simp[execOp,ho]
 ·cases h
theorem pick_ok (B:Base P Γ θ w0 M0 S0) (W:RepW θ N w0 M0 S0 ι0 r ι S a w) {c x y:Operand} (ho:o.op=.pick c x y) (h:stepPick Γ N r o.dst c x y k=some q) (hK:Out θ N w0 M0 S0 ι0 k q r K'):o.wp P a w K' Q:=by
 unfold stepPick at h
 split at h
 ·rename_i b hb
  have hc:a.eval c=.bool b:=evc_ok B W hb
  have hrun:(execOp a.eval o).run P w=.ok (.value (if b then a.eval x else a.eval y)) w:=by simp[execOp,ho,hc,asBool]
  split at h
  ·rename_i u v hu hv
   have eu:=eval_ok B W hu
   have ev:=eval_ok B W hv
   split at h
   ·refine fin hrun h W (.refl r) ?_ hK
    cases b
    ·exact ev
    ·exact eu
   ·rcases wrap_not h with ⟨rfl,h⟩ | ⟨rfl,h⟩
    ·exact fin hrun h W (.refl r) eu hK
    ·exact fin hrun h W (.refl r) ev hK
  ·cases h
 ·cases h
theorem intOp_ok {op:BinOp} {t:TypeId} {kd:IntKind} {x y:Int} {f:CV→Option R} (hs:op≠.shl∧op≠.shr) (h:intOp op kd x y f=some q) :
  ∃c V,f c=some q∧RCV ι θ S w c V∧(binOp op t (.int kd x) (.int kd y)).run P w=.ok V w:=by
 cases op <;> simp only[intOp] at h <;> (try exact absurd rfl hs.1) <;> (try exact absurd rfl hs.2) <;> (try cases h;done)
 case quo=>obtain ⟨h1,h⟩:=grd_some h;exact ⟨_,_,h,rfl,by simp at h1;simp[binOp,Op.intDiv,h1]⟩
 case rem=>obtain ⟨h1,h⟩:=grd_some h;exact ⟨_,_,h,rfl,by simp at h1;simp[binOp,Op.intDiv,h1]⟩
 all_goals refine ⟨_,_,h,rfl,?_⟩
 all_goals simp[binOp,Op.intArith,Op.intBits,Op.intCmp]
 all_goals (by_cases e:x=y <;> simp[e])
theorem shOp_ok {op:BinOp} {t:TypeId} {kd k2:IntKind} {x y:Int} {f:CV→Option R} (h:shOp op kd x y f=some q) :
  ∃c V,f c=some q∧RCV ι θ S w c V∧(binOp op t (.int kd x) (.int k2 y)).run P w=.ok V w:=by
 cases op <;> simp only[shOp] at h <;> (try cases h;done)
 all_goals
  obtain ⟨h1,h⟩:=grd_some h
  have h2:¬y<0:=by simp at h1;omega
  exact ⟨_,_,h,rfl,by simp[binOp,Op.shift,h2]⟩
theorem toList_mkB (l:Bs):(mkB l).toList=l:=ByteArray.toList_eq _
theorem strOp_ok {op:BinOp} {t:TypeId} {x y:Bs} {f:CV→Option R} (h:strOp op x y f=some q) :
  ∃c V,f c=some q∧RCV ι θ S w c V∧(binOp op t (.string (mkB x)) (.string (mkB y))).run P w=.ok V w:=by
 cases op <;> simp only[strOp] at h <;> (try cases h;done)
 case add =>
  obtain ⟨h1,h⟩:=grd_some h
  have h2:¬((((mkB x).size+(mkB y).size:Nat):Int) > IntKind.i64.max):=by
   have e1:(mkB x).size=x.length:=rfl
   have e2:(mkB y).size=y.length:=rfl
   simp only[decide_eq_true_eq] at h1
   rw[e1,e2]
   have:IntKind.i64.max=9223372036854775807:=by decide
   omega
  refine ⟨_,_,h,rfl,?_⟩
  simp only[binOp,Op.stringOp,h2,if_false,Sem.run_pure]
  congr 2
 all_goals
  refine ⟨_,_,h,rfl,?_⟩
  simp[binOp,Op.stringOp,toList_mkB,bless]
theorem shCV_ok {op:BinOp} {t:TypeId} {x y:CV} {X Y:Value} {f:CV→Option R} (ho:op=.shl∨op=.shr) (hx:RCV ι θ S w x X) (hy:RCV ι θ S w y Y) (h:shCV op x y f=some q) :
  ∃c V,f c=some q∧RCV ι θ S w c V∧(binOp op t X Y).run P w=.ok V w∧∀u v,eqGuard op t u v X Y=pure ():=by
 cases x <;> (try cases h;done)
 cases y <;> (try cases h;done)
 rename_i k1 n1 k2 n2
 rw[show X=.int k1 n1 from hx,show Y=.int k2 n2 from hy]
 obtain ⟨c,V,h1,h2,h3⟩:=shOp_ok (t:=t) (k2:=k2) (ι:=ι) (θ:=θ) (S:=S) (w:=w) (P:=P) h
 exact ⟨c,V,h1,h2,h3,fun u v=>by rcases ho with rfl | rfl <;> rfl⟩
theorem arCV_ok {op:BinOp} {t:TypeId} {x y:CV} {X Y:Value} {f:CV→Option R} (ho:op≠.shl∧op≠.shr) (hb:∀b c,x=.bool b→y=.bool c→P.underlying t=some .bool) (hx:RCV ι θ S w x X) (hy:RCV ι θ S w y Y) (h:arCV op x y f=some q) :
  ∃c V,f c=some q∧RCV ι θ S w c V∧(binOp op t X Y).run P w=.ok V w∧∀u v,eqGuard op t u v X Y=pure ():=by
 cases x <;> cases y <;> (try cases h;done)
 ·rename_i k1 n1 k2 n2
  rw[show X=.int k1 n1 from hx,show Y=.int k2 n2 from hy]
  have h':(bif decide (k1=k2) then intOp op k1 n1 n2 f else none)=some q:=h
  obtain ⟨e,hh⟩:=bif_some h'
  have e:=of_decide_eq_true e
  subst e
  obtain ⟨c,V,h1,h2,h3⟩:=intOp_ok (t:=t) (ι:=ι) (θ:=θ) (S:=S) (w:=w) (P:=P) ho hh
  exact ⟨c,V,h1,h2,h3,fun u v=>by cases op <;> rfl⟩
 ·rename_i b1 b2
  rw[show X=.bool b1 from hx,show Y=.bool b2 from hy]
  have ht:=hb _ _ rfl rfl
  have h':boolOp op b1 b2 f=some q:=h
  cases op <;> simp only[boolOp] at h' <;> (try cases h';done)
  ·exact ⟨_,_,h',rfl,run_eql_bool w t _ _ ht,fun u v=>rfl⟩
  ·exact ⟨_,_,h',rfl,run_neq_bool w t _ _ ht,fun u v=>rfl⟩
 ·rename_i s1 s2
  rw[show X=.string (mkB s1) from hx,show Y=.string (mkB s2) from hy]
  obtain ⟨c,V,h1,h2,h3⟩:=strOp_ok (t:=t) (ι:=ι) (θ:=θ) (S:=S) (w:=w) (P:=P) h
  exact ⟨c,V,h1,h2,h3,fun u v=>by cases op <;> rfl⟩
theorem binCV_ok {op:BinOp} {t:TypeId} {x y:CV} {X Y:Value} {f:CV→Option R} (hb:∀b c,x=.bool b→y=.bool c→P.underlying t=some .bool) (hx:RCV ι θ S w x X) (hy:RCV ι θ S w y Y) (h:binCV op x y f=some q) :
  ∃c V,f c=some q∧RCV ι θ S w c V∧(binOp op t X Y).run P w=.ok V w∧∀u v,eqGuard op t u v X Y=pure ():=by
 cases op
 case shl=>exact shCV_ok (.inl rfl) hx hy h
 case shr=>exact shCV_ok (.inr rfl) hx hy h
 all_goals exact arCV_ok (by simp) hb hx hy h
end Go.VM
namespace Go.VM
open Go.RowKit
variable {P:Program} {Γ:Ctx} {θ:Nat→Value} {N:Nat} {w0:World} {M0 S0:Nat→Prop} {ι0:Nat→Value} {r:Env} {ι:Nat→Value} {S:Nat→Prop} {a:Act} {w:World} {R:Type}
 {o:Oper} {K':Act→World→Prop} {Q:Exit→Act→World→Prop} {k:Env→Option R} {q:R}
theorem TyD.agg {tys:List (Nat×Ty)} {τ:Ty} {d:TypeDesc} (h:TyD P tys τ d):(τ.isS=true∧∃fs,d=.struct fs)∨(τ.isS=false∧(∀fs,d≠.struct fs)∧∀n e,d≠.array n e):=by
 cases h with
 | struct t fs _ hs _=>exact .inl ⟨hs,fs,rfl⟩
 | _=>exact .inr ⟨rfl,fun _ h=>(by cases h),fun _ _ h=>(by cases h)⟩
theorem run_isAgg {t:Nat} {τ:Ty} (h:TyF P Γ.tys t τ):(isAgg t).run P w=.ok τ.isS w:=by
 obtain ⟨⟨d,h1,h2⟩,_⟩:=h
 simp only[isAgg,Sem.run_bind,run_underlying h1,Result.andThen_ok]
 rcases h2.agg with ⟨hs,fs,rfl⟩ | ⟨hs,h3,h4⟩
 ·rw[hs];rfl
 ·rw[hs]
  cases d <;> first | rfl | exact absurd rfl (h3 _) | exact absurd rfl (h4 _ _)
theorem run_sizeOf' {t:Nat} {τ:Ty} (h:TyF P Γ.tys t τ):(sizeOf t).run P w=.ok τ.size w:=by
 obtain ⟨_,i,z,vs,h1,h2,_⟩:=h
 simp only[sizeOf,typeInfo,Sem.run_bind,run_program,Result.andThen_ok,h1,Sem.run_pure,h2]
theorem run_loadVar {t:Nat} {τ:Ty} (h:TyF P Γ.tys t τ) {b o:Nat} {vs:List Value} (hl:vs.length=τ.size) (hc:CellsAt w b o vs) :
  (loadVar t ⟨b,o,none⟩).run P w=.ok (aggOf τ vs) w:=by
 simp only[loadVar,Sem.run_bind,run_isAgg h,Result.andThen_ok,aggOf]
 cases hs:τ.isS with
 | true =>
  simp only[if_true,Sem.run_bind,run_sizeOf' h,Result.andThen_ok]
  rw[←hl,run_loadCells_list (P:=P) w ⟨b,o,none⟩ vs (fun j v hv=>by rw[Addr.add_lit];exact hc j v hv)]
  simp only[Result.andThen_ok,Sem.run_pure]
 | false =>
  have h1:τ.size=1:=by cases τ <;> first | rfl | cases hs
  rw[h1] at hl
  obtain ⟨v,rfl⟩:=List.length_eq_one_iff.1 hl
  have:=hc 0 v rfl
  simp only[Bool.false_eq_true,if_false,run_load,Nat.add_zero] at this ⊢
  rw[this]
  rfl
theorem CellsAt.drop {b o:Nat} {vs:List Value} (h:CellsAt w b o vs) (n:Nat):CellsAt w b (o+n) (vs.drop n):=fun j v hv=>by
 rw[List.getElem?_drop] at hv
 rw[Nat.add_assoc]
 exact h _ v hv
theorem CellsAt.take {b o:Nat} {vs:List Value} (h:CellsAt w b o vs) (n:Nat):CellsAt w b o (vs.take n):=fun j v hv=>by
 rw[List.getElem?_take] at hv
 split at hv
 ·exact h j v hv
 ·cases hv
theorem castL_eq {e:Ty} (h:e=e) (xs:List e.den):castL h xs=xs:=rfl
theorem rd_ok (W:RepW θ N w0 M0 S0 ι0 r ι S a w) {size:Nat} {p:CV} {V:Value} {cs:List CV} (hp:RCV ι θ S w p V) (h:r.rd size p=some cs) :
  ∃b o vs,V=.pointer (some ⟨b,o,none⟩)∧All2 (RCV ι θ S w) cs vs∧CellsAt w b o vs:=by
 cases p <;> simp only[Env.rd] at h <;> (try cases h;done)
 case ref n off =>
  split at h
  ·rename_i cs0 ho
   rw[←Option.some.inj h]
   obtain ⟨b,h1,h2⟩:=hp
   obtain ⟨b',vs,h3,_,h4,h5,_⟩:=W.obs n _ ho
   rw[h1] at h3
   obtain rfl:b=b':=by simpa using h3
   exact ⟨b,off,(vs.drop off).take size,h2,(h4.drop off).take size,by simpa using (h5.drop off).take size⟩
  ·cases h
 case elm n e i off =>
  split at h
  ·rename_i e' xs ho
   split at h
   ·rename_i he
    subst he
    rw[←Option.some.inj h]
    obtain ⟨b,o,len,cap,h1,h2,h3⟩:=hp
    obtain ⟨h0,p,cap',h4,h5,h6⟩:=W.obs n _ ho
    rw[h1] at h4
    simp only[Value.slice.injEq] at h4
    obtain ⟨rfl,rfl,rfl⟩:=h4
    obtain ⟨b',o',h7,h8,h9⟩:=h6.resolve_left bo%
    simp only[Option.some.injEq,Addr.mk.injEq,and_true] at h7
    obtain ⟨rfl,rfl⟩:=h7
    obtain ⟨ws,h10,h11⟩:=h9 i xs[i] (List.getElem?_eq_getElem h2)
    have hg:xs.getD i e'.dflt=xs[i]:=by simp[List.getD,List.getElem?_eq_getElem h2]
    rw[castL_eq,hg]
    refine ⟨b,_,(ws.drop off).take size,h3,((h10.cells (ι:=ι)).drop off).take size,?_⟩
    rw[←Nat.add_assoc]
    exact (h11.drop off).take size
   ·cases h
  ·cases h
 case idx t x off =>
  rw[←Option.some.inj h]
  obtain ⟨b,o,ws,h1,h2,h3,h4⟩:=hp
  exact ⟨b,o+off,(ws.drop off).take size,h1,((h3.cells (ι:=ι)).drop off).take size,(h4.drop off).take size⟩
theorem asTV_ok {τ:Ty} {cs:List CV} {vs:List Value} {v:TV} (h:asTV τ cs=some v) (hc:All2 (RCV ι θ S w) cs vs):RTV ι θ S w v (aggOf τ vs):=by
 unfold asTV at h
 unfold aggOf
 cases hs:τ.isS with
 | true =>
  rw[hs] at h
  rw[←Option.some.inj h]
  exact ⟨vs,rfl,hc⟩
 | false =>
  rw[hs] at h
  cases hc with
  | nil=>cases h
  | cons h1 h2 =>
   cases h2 with
   | nil =>
    obtain rfl:TV.one _=v:=Option.some.inj h
    exact h1
   | cons _ _=>cases h
theorem load_ok (B:Base P Γ θ w0 M0 S0) (W:RepW θ N w0 M0 S0 ι0 r ι S a w) {t:Nat} {x:Operand} (ho:o.op=.load t x)
  (h:(match Γ.ty t,r.evc Γ x with
  | some τ,some p=>match r.rd τ.size p with
   | some cs=>match bif Nat.beq cs.length τ.size then asTV τ cs else none with
    | some v=>r.put N o.dst (.t v) k
    | none=>none
   | none=>none
  | _,_=>none)=some q) (hK:Out θ N w0 M0 S0 ι0 k q r K'):o.wp P a w K' Q:=by
 split at h
 ·rename_i τ p ht hp
  split at h
  ·rename_i cs hcs
   split at h
   ·rename_i v hv
    obtain ⟨hl,hv⟩:=bif_some hv
    rw[nbeq,decide_eq_true_eq] at hl
    obtain ⟨b,off,vs,h1,h2,h3⟩:=rd_ok W (evc_ok B W hp) hcs
    refine fin (V:=aggOf τ vs) ?_ h W (.refl r) (asTV_ok hv h2) hK
    have:=run_loadVar (P:=P) (w:=w) (B.ty t τ ht) (h2.length.symm.trans hl) h3
    simp[execOp,ho,Instr.loadAt,Instr.sureAddr,h1,this]
   ·cases h
  ·cases h
 ·cases h
def setsAt (w:World) (b:Nat):Nat→List Value→World
 | _,[]=>w
 | o,v :: vs=>setsAt (w.setCell ⟨b,o,none⟩ v) b (o+1) vs
theorem setsAt_size (b:Nat):∀(o:Nat) (vs:List Value) (w:World),(setsAt w b o vs).heap.size=w.heap.size
 | _,[],_=>rfl
 | o,v :: vs,w=>by rw[setsAt,setsAt_size b];simp
theorem setsAt_os (b:Nat):∀(o:Nat) (vs:List Value) (w:World),(setsAt w b o vs).os=w.os∧(setsAt w b o vs).tape=w.tape∧(setsAt w b o vs).output=w.output
 | _,[],_=>⟨rfl,rfl,rfl⟩
 | o,v :: vs,w=>by rw[setsAt];exact setsAt_os b _ vs _
theorem setsAt_block (b k:Nat) (hk:k≠b):∀(o:Nat) (vs:List Value) (w:World),(setsAt w b o vs).heap[k]? = w.heap[k]?
 | _,[],_=>rfl
 | o,v :: vs,w=>by rw[setsAt,setsAt_block b k hk];exact Below.heap_setCell _ _ _ _ hk
theorem setsAt_frozen (b:Nat) (p:Addr):∀(o:Nat) (vs:List Value) (w:World),(setsAt w b o vs).frozen? p=w.frozen? p
 | _,[],_=>rfl
 | o,v :: vs,w=>by rw[setsAt,setsAt_frozen b p];simp
theorem setsAt_other (b j:Nat):∀(o:Nat) (vs:List Value) (w:World),(j<o∨o+vs.length≤j)→(setsAt w b o vs).cell? ⟨b,j,none⟩=w.cell? ⟨b,j,none⟩
 | _,[],_,_=>rfl
 | o,v :: vs,w,h=>by
  simp only[List.length_cons] at h
  rw[setsAt,setsAt_other b j (o+1) vs _ bo%]
  exact World.cell?_setCell_other _ _ _ _ (fun e=>by simp only[Addr.mk.injEq] at e;omega)
theorem setsAt_cells (b:Nat):∀(o:Nat) (vs:List Value) (w:World),(∀j,j<vs.length→∃v,w.cell? ⟨b,o+j,none⟩=some v)→CellsAt (setsAt w b o vs) b o vs
 | _,[],_,_=>fun j v hv=>by simp at hv
 | o,v :: vs,w,h=>fun j u hu=>by
  rw[setsAt]
  cases j with
  | zero =>
   obtain rfl:v=u:=by simpa using hu
   rw[setsAt_other b (o+0) (o+1) vs _ (.inl bo%)]
   obtain ⟨u,hu⟩:=h 0 (by simp)
   exact (World.cell?_setCell_same w _ v hu:(w.setCell ⟨b,o+0,none⟩ v).cell? ⟨b,o+0,none⟩=some v)
  | succ j =>
   have hu:vs[j]? = some u:=by simpa using hu
   have hj:j<vs.length:=(List.getElem?_eq_some_iff.1 hu).1
   have:=setsAt_cells b (o+1) vs (w.setCell ⟨b,o,none⟩ v) (fun i hi=>by
    obtain ⟨x,hx⟩:=h (i+1) (by simp;omega)
    refine ⟨x,?_⟩
    rw[World.cell?_setCell_other (h:=fun e=>by simp only[Addr.mk.injEq] at e;omega)]
    rw[←hx];congr 2;omega) j u hu
   rw[←this];congr 2;omega
theorem run_storeCells (b o:Nat):∀(vs:List Value) (i:Nat) (w:World),(∀j,j<vs.length→(∃v,w.cell? ⟨b,o+i+j,none⟩=some v)∧w.frozen? ⟨b,o+i+j,none⟩=false)→(∀v,v∈vs→v.oneCell'=true) →
  (storeCells ⟨b,o,none⟩ vs i).run P w=.ok () (setsAt w b (o+i) vs)
 | [],_,_,_,_=>rfl
 | v :: vs,i,w,h,h1=>by
  obtain ⟨⟨u,hu⟩,hf⟩:=h 0 (by simp)
  simp only[Nat.add_zero] at hu hf
  have hs:(store ((⟨b,o,none⟩:Addr).add i) v).run P w=.ok () (w.setCell ⟨b,o+i,none⟩ v):=by
   rw[Addr.add_lit,run_store P w _ v _ (h1 v (by simp)),hu]
   simp[hf]
  unfold storeCells
  simp only[Sem.run_bind,hs,Result.andThen_ok]
  rw[run_storeCells b o vs (i+1) _ (fun j hj=>?_) (fun v hv=>h1 v (by simp[hv]))]
  ·rw[setsAt];congr 1
  ·obtain ⟨⟨x,hx⟩,hfx⟩:=h (j+1) (by simp;omega)
   refine ⟨⟨x,?_⟩,?_⟩
   ·rw[World.cell?_setCell_other (h:=fun e=>by simp only[Addr.mk.injEq] at e;omega)]
    rw[←hx];congr 2;omega
   ·rw[World.frozen?_setCell,←hfx];congr 2;omega
theorem All2.sets {Q:CV→Value→Prop} {cs new:List CV} {vs ns:List Value} (h:All2 Q cs vs) (hn:All2 Q new ns) (off:Nat):All2 Q (setCells cs off new) (vs.take off++ns++vs.drop (off+ns.length)):=by
 unfold setCells
 rw[←hn.length]
 exact ((h.take off).append hn).append (h.drop _)
theorem RCV.one1 (hi:∀n,(ι n).oneCell'=true) (ht:∀n,(θ n).oneCell'=true) {c:CV} {V:Value} (h:RCV ι θ S w c V) (hc:okC c=true):V.oneCell'=true:=by
 cases c with
 | val v=>rw[show V=v from h];exact hc
 | sl n=>rw[show V=ι n from h];exact hi n
 | opq n=>rw[show V=θ n from h];exact ht n
 | clo _ _ _ _ _ _=>cases hc
 | imm e xs=>obtain ⟨p,cap,e1,_⟩:=h;rw[(List.cons.inj e1).1];rfl
 | ref n off=>obtain ⟨b,_,h2⟩:=h;rw[h2];rfl
 | elm n e i off=>obtain ⟨b,o,l,c,_,_,h2⟩:=h;rw[h2];rfl
 | idx t x off=>obtain ⟨b,o,ws,h2,_⟩:=h;rw[h2];rfl
 | err b=>exact ErrV.one h
 | _=>rw[h];rfl
theorem ones (hi:∀n,(ι n).oneCell'=true) (ht:∀n,(θ n).oneCell'=true) {cs:List CV} {vs:List Value} (h:All2 (RCV ι θ S w) cs vs) (hc:okCs cs=true):∀v,v∈vs→v.oneCell'=true:=by
 induction h with
 | nil=>intro v hv;cases hv
 | cons h _ ih =>
  simp only[okCs,Bool.and_eq_true] at hc
  intro v hv
  rcases List.mem_cons.1 hv with rfl | hv
  ·exact RCV.one1 hi ht h hc.1
  ·exact ih hc.2 v hv
theorem cells_one {V:Value} (h:V.oneCell'=true):V.cells=⟨[V]⟩:=by
 cases V <;> first | rfl | cases h
theorem cells_of (hi:∀n,(ι n).oneCell'=true) (ht:∀n,(θ n).oneCell'=true) {v:TV} {V:Value} (h:RTV ι θ S w v V) (hc:okCs (cellsOf v)=true) :
  ∃vs,V.cells=⟨vs⟩∧All2 (RCV ι θ S w) (cellsOf v) vs∧∀v,v∈vs→v.oneCell'=true:=by
 cases v with
 | one c =>
  have h':All2 (RCV ι θ S w) [c] [V]:=.cons h .nil
  have h1:=ones hi ht h' hc
  exact ⟨[V],cells_one (h1 V (by simp)),h',h1⟩
 | agg cs =>
  obtain ⟨vs,rfl,h⟩:=h
  exact ⟨vs,rfl,h,ones hi ht h hc⟩
theorem run_storeAt {t:Nat} {τ:Ty} (hT:TyF P Γ.tys t τ) {b o:Nat} {V:Value} {vs:List Value} (hv:V.cells=⟨vs⟩) (hl:vs.length=τ.size)
  (hc:∀j,j<vs.length→(∃v,w.cell? ⟨b,o+j,none⟩=some v)∧w.frozen? ⟨b,o+j,none⟩=false) (h1:∀v,v∈vs→v.oneCell'=true) :
  (Instr.storeAt t (.pointer (some ⟨b,o,none⟩)) V).run P w=.ok () (setsAt w b o vs):=by
 have hz:¬V.cells.size≠τ.size:=by rw[hv];simpa using hl
 simp only[Instr.storeAt,Instr.sureAddr,storeVar,Sem.run_bind,Sem.run_pure,Result.andThen_ok,run_sizeOf' hT,hz,if_false]
 rw[hv]
 exact run_storeCells b o vs 0 w (by simpa using hc) h1
theorem isNil_eq {v:Value} (h:isNil v=true):v=.slice none 0 0:=by
 revert h
 unfold isNil
 split
 ·intro _;rfl
 ·intro h;cases h
theorem ofCells_ok {ob:Nat→Option Ob} {S':Nat→Prop} (hs:∀b,S b→S' b) (hob:∀n e xs,ob n=some (.row e xs)→RepC θ S' w (.lst e) xs [ι n]) :
  ∀ {t:Ty} {cs:List CV} {x:t.den} {rest:List CV} {vs:List Value},ofCells ob t cs=some (x,rest)→All2 (RCV ι θ S w) cs vs→∃v1 v2,vs=v1++v2∧RepC θ S' w t x v1∧All2 (RCV ι θ S w) rest v2
 | .unit,cs,x,rest,vs,h,hc=>by
  simp only[ofCells,Option.some.injEq,Prod.mk.injEq] at h
  obtain ⟨_,rfl⟩:=h
  exact ⟨[],vs,rfl,rfl,hc⟩
 | .pair a b,cs,x,rest,vs,h,hc=>by
  simp only[ofCells] at h
  split at h
  ·cases h
  ·rename_i p hp
   split at h
   ·cases h
   ·rename_i p2 hp2
    simp only[Option.some.injEq,Prod.mk.injEq] at h
    obtain ⟨rfl,rfl⟩:=h
    obtain ⟨v1,v2,rfl,h1,h2⟩:=ofCells_ok hs hob (x:=p.1) (rest:=p.2) hp hc
    obtain ⟨v3,v4,rfl,h3,h4⟩:=ofCells_ok hs hob (x:=p2.1) (rest:=p2.2) hp2 h2
    exact ⟨v1++v3,v4,by simp,⟨v1,v3,rfl,h1,h3⟩,h4⟩
 | .int k,[],x,rest,vs,h,hc=>by cases h
 | .bool,[],x,rest,vs,h,hc=>by cases h
 | .str,[],x,rest,vs,h,hc=>by cases h
 | .lst e,[],x,rest,vs,h,hc=>by cases h
 | .opq,[],x,rest,vs,h,hc=>by cases h
 | .adr _,[],x,rest,vs,h,hc=>by cases h
 | .err,[],x,rest,vs,h,hc=>by cases h
 | .rd _,[],x,rest,vs,h,hc=>by cases h
 | .rd e,c :: cs,x,rest,_,h,.cons h1 h2=>by
  simp only[ofCells] at h
  split at h
  ·rename_i xs hxs
   simp only[Option.some.injEq,Prod.mk.injEq] at h
   obtain ⟨rfl,rfl⟩:=h
   refine ⟨[_],_,rfl,?_,h2⟩
   cases c <;> simp only[listOf] at hxs <;> (try cases hxs;done)
   ·rename_i v
    obtain ⟨e1,hxs⟩:=bif_some hxs
    rw[←Option.some.inj hxs,show _=v from h1,isNil_eq e1]
    exact ⟨none,0,rfl,Nat.le_refl _,.inl rfl⟩
   ·rename_i n
    split at hxs
    ·rename_i e' ys hn
     split at hxs
     ·rename_i he
      subst he
      rw[←Option.some.inj hxs,show _=ι n from h1]
      exact hob n _ _ hn
     ·cases hxs
    ·cases hxs
   ·rename_i e' ys
    split at hxs
    ·rename_i he
     subst he
     rw[←Option.some.inj hxs]
     exact RepC.mono hs (fun _ _=>rfl) h1
    ·cases hxs
  ·cases h
 | .err,c :: cs,x,rest,_,h,.cons h1 h2=>by
  cases c <;> simp only[ofCells] at h <;> (try cases h;done)
  simp only[Option.some.injEq,Prod.mk.injEq] at h
  obtain ⟨rfl,rfl⟩:=h
  exact ⟨[_],_,rfl,⟨_,rfl,h1⟩,h2⟩
 | .adr t,c :: cs,x,rest,_,h,.cons h1 h2=>by
  simp only[ofCells] at h
  split at h
  ·rename_i y hy
   simp only[Option.some.injEq,Prod.mk.injEq] at h
   obtain ⟨rfl,rfl⟩:=h
   refine ⟨[_],_,rfl,?_,h2⟩
   cases c <;> simp only[adrOf] at hy <;> (try cases hy;done)
   rename_i t' x' off
   obtain ⟨e1,hy⟩:=bif_some hy
   obtain rfl:=Nat.eq_of_beq_eq_true e1
   split at hy
   ·rename_i ht
    subst ht
    cases hy
    obtain ⟨b,o,ws,e2,hb,c1,c2⟩:=h1
    exact ⟨b,o,ws,by rw[e2];rfl,hs b hb,c1.mono hs (fun _ _=>rfl),c2⟩
   ·cases hy
  ·cases h
 | .int k,c :: cs,x,rest,_,h,.cons h1 h2=>by
  cases c <;> simp only[ofCells] at h <;> (try cases h;done)
  rename_i k' n
  obtain ⟨e,h⟩:=bif_some h
  have e:=of_decide_eq_true e
  subst e
  simp only[Option.some.injEq,Prod.mk.injEq] at h
  obtain ⟨rfl,rfl⟩:=h
  exact ⟨[_],_,rfl,congrArg (· :: []) h1,h2⟩
 | .bool,c :: cs,x,rest,_,h,.cons h1 h2=>by
  cases c <;> simp only[ofCells] at h <;> (try cases h;done)
  simp only[Option.some.injEq,Prod.mk.injEq] at h
  obtain ⟨rfl,rfl⟩:=h
  exact ⟨[_],_,rfl,congrArg (· :: []) h1,h2⟩
 | .str,c :: cs,x,rest,_,h,.cons h1 h2=>by
  cases c <;> simp only[ofCells] at h <;> (try cases h;done)
  simp only[Option.some.injEq,Prod.mk.injEq] at h
  obtain ⟨rfl,rfl⟩:=h
  exact ⟨[_],_,rfl,congrArg (· :: []) h1,h2⟩
 | .opq,c :: cs,x,rest,_,h,.cons h1 h2=>by
  cases c <;> simp only[ofCells] at h <;> (try cases h;done)
  simp only[Option.some.injEq,Prod.mk.injEq] at h
  obtain ⟨rfl,rfl⟩:=h
  exact ⟨[_],_,rfl,congrArg (· :: []) h1,h2⟩
 | .lst e,c :: cs,x,rest,_,h,.cons h1 h2=>by
  simp only[ofCells] at h
  split at h
  ·rename_i xs hxs
   simp only[Option.some.injEq,Prod.mk.injEq] at h
   obtain ⟨rfl,rfl⟩:=h
   refine ⟨[_],_,rfl,?_,h2⟩
   cases c <;> simp only[listOf] at hxs <;> (try cases hxs;done)
   ·rename_i v
    obtain ⟨e1,hxs⟩:=bif_some hxs
    rw[←Option.some.inj hxs,show _=v from h1,isNil_eq e1]
    exact ⟨none,0,rfl,Nat.le_refl _,.inl rfl⟩
   ·rename_i n
    split at hxs
    ·rename_i e' ys hn
     split at hxs
     ·rename_i he
      subst he
      rw[←Option.some.inj hxs,show _=ι n from h1]
      exact hob n _ _ hn
     ·cases hxs
    ·cases hxs
   ·rename_i e' ys
    split at hxs
    ·rename_i he
     subst he
     rw[←Option.some.inj hxs]
     exact RepC.mono hs (fun _ _=>rfl) h1
    ·cases hxs
  ·cases h
theorem none_ob {S':Nat→Prop}:∀n e xs,(fun _:Nat=>(none:Option Ob)) n=some (.row e xs)→RepC θ S' w (.lst e) xs [ι n]:=fun _ _ _ h=>by cases h
theorem setsAt_some (b:Nat) (p:Addr):∀(o:Nat) (vs:List Value) (w:World),(∃v,w.cell? p=some v)→∃v,(setsAt w b o vs).cell? p=some v
 | _,[],_,h=>h
 | o,v :: vs,w,h=>by
  rw[setsAt]
  refine setsAt_some b p _ vs _ ?_
  by_cases e:(⟨b,o,none⟩:Addr)=p
  ·subst e
   obtain ⟨u,hu⟩:=h
   exact ⟨v,World.cell?_setCell_same w _ v hu⟩
  ·rw[World.cell?_setCell_other w _ _ v e];exact h
theorem slot_bound {i i' size cap j:Nat} (hi:i<cap) (hj:j<size):i*size+j<cap*size:=by
 have:=Nat.mul_le_mul_right size (show i+1≤cap from hi)
 rw[Nat.add_mul,Nat.one_mul] at this
 omega
theorem slot_apart {i i' size j:Nat} (h:i'<i) (hj:j<size):i'*size+j<i*size:=by
 have:=Nat.mul_le_mul_right size (show i'+1≤i from h)
 rw[Nat.add_mul,Nat.one_mul] at this
 omega
theorem wr_ok (B:Base P Γ θ w0 M0 S0) (W:RepW θ N w0 M0 S0 ι0 r ι S a w) {p:CV} {V:Value} {cs:List CV} {vs:List Value} {k:Env→Option R} (hp:RCV ι θ S w p V) (hc:All2 (RCV ι θ S w) cs vs) (h:r.wr cs p k=some q) :
  ∃b o r',V=.pointer (some ⟨b,o,none⟩)∧(∀j,j<vs.length→(∃v,w.cell? ⟨b,o+j,none⟩=some v)∧w.frozen? ⟨b,o+j,none⟩=false) ∧
   k r'=some q∧RepW θ N w0 M0 S0 ι0 r' ι S a (setsAt w b o vs)∧Prot r r':=by
 have hos:=setsAt_os
 cases p <;> simp only[Env.wr] at h <;> (try cases h;done)
 case ref n off =>
  split at h
  ·rename_i old ho
   obtain ⟨hl,h⟩:=bif_some h
   have hl:off+cs.length≤old.length:=Nat.le_of_ble_eq_true hl
   obtain ⟨b,h1,h2⟩:=hp
   obtain ⟨b',ovs,h3,hlt,h4,h5,h6⟩:=W.obs n _ ho
   rw[h1] at h3
   obtain rfl:b=b':=by simpa using h3
   have hln:=h4.length
   have hcl:=hc.length
   have hcell:∀j,j<vs.length→(∃v,w.cell? ⟨b,off+j,none⟩=some v)∧w.frozen? ⟨b,off+j,none⟩=false:=fun j hj=>by
    refine ⟨⟨_,by have:=h5 (off+j) _ (List.getElem?_eq_getElem bo%);rw[Nat.zero_add] at this;exact this⟩,h6 _ bo%⟩
   have hsame:Same S w (setsAt w b off vs):=fun c hcS=>setsAt_block b c (fun e=>(W.own n _ b ho (by rw[h1];rfl)).1 (e ▸ hcS)) _ _ _
   obtain ⟨r',g1,g2,g3,_⟩:=upd_ok (w':=setsAt w b off vs) h W ho (setsAt_os b _ _ _).1 (setsAt_os b _ _ _).2.1 (setsAt_os b _ _ _).2.2 (by rw[setsAt_size];exact Nat.le_refl _)
    (fun c _ hcb=>setsAt_block b c (fun e=>hcb (by rw[h1,e];rfl)) _ _ _)
    ⟨b,ovs.take off++vs++ovs.drop (off+vs.length),h1,by rw[setsAt_size];exact hlt,
     ((h4.sets hc off).mono fun c V hcV=>RCV.mono (fun _ h=>h) hsame (fun _ _=>rfl) hcV),(by
      intro j v hv
      rw[Nat.zero_add]
      by_cases hj1:j<off
      ·rw[setsAt_other b j off vs w (.inl hj1)]
       rw[List.append_assoc,List.getElem?_append_left (by simp;omega),List.getElem?_take,if_pos hj1] at hv
       have:=h5 j v hv
       rwa [Nat.zero_add] at this
      ·by_cases hj2:j<off+vs.length
       ·have hv':vs[j-off]? = some v:=by
         rw[List.append_assoc,List.getElem?_append_right (by simp;omega)] at hv
         rw[List.length_take,Nat.min_eq_left bo%,List.getElem?_append_left bo%] at hv
         exact hv
        have:=setsAt_cells b off vs w (fun j hj=>(hcell j hj).1) (j-off) v hv'
        rwa [show off+(j-off)=j by omega] at this
       ·rw[setsAt_other b j off vs w (.inr bo%)]
        rw[List.getElem?_append_right (by simp;omega),List.getElem?_drop] at hv
        have:=h5 j v (by rw[←hv];congr 1;simp;omega)
        rwa [Nat.zero_add] at this),fun j hj=>by rw[setsAt_frozen];exact h6 j (by simp at hj;omega)⟩
   exact ⟨b,off,r',h2,hcell,g1,g2,g3⟩
  ·cases h
 case elm n e i off =>
  split at h
  ·rename_i e' xs ho
   split at h
   ·rename_i he
    subst he
    rw[castL_eq] at h
    split at h
    ·rename_i x hx
     obtain ⟨hi,h⟩:=grd_some h
     have hi:i<xs.length:=of_decide_eq_true hi
     obtain ⟨b,o,len,cap,h1,h2,h3⟩:=hp
     obtain ⟨h0,p,cap',h4,h5,h6⟩:=W.obs n _ ho
     rw[h1] at h4
     simp only[Value.slice.injEq] at h4
     obtain ⟨rfl,rfl,rfl⟩:=h4
     obtain ⟨b',o',h7,h8,h9⟩:=h6.resolve_left bo%
     simp only[Option.some.injEq,Addr.mk.injEq,and_true] at h7
     obtain ⟨rfl,rfl⟩:=h7
     obtain ⟨ws,h10,h11⟩:=h9 i xs[i] (List.getElem?_eq_getElem hi)
     have hg:xs.getD i e'.dflt=xs[i]:=by simp[List.getD,List.getElem?_eq_getElem hi]
     rw[hg] at hx
     have hA:=((h10.cells (ι:=ι))).sets hc off
     obtain ⟨v1,v2,e12,hR,hnil⟩:=ofCells_ok (S':=S) (fun _ h=>h) none_ob hx hA
     cases hnil
     rw[List.append_nil] at e12
     have hL:=hR.len
     have hwl:=h10.len
     rw[←e12] at hL hR
     simp only[List.length_append,List.length_take,List.length_drop,hwl] at hL
     have hoff:vs.length=0∨off+vs.length≤e'.size:=by omega
     have hcell:∀j,j<vs.length→(∃v,w.cell? ⟨b,o+(i*e'.size+off)+j,none⟩=some v)∧w.frozen? ⟨b,o+(i*e'.size+off)+j,none⟩=false:=fun j hj=>by
      have:=h8 (i*e'.size+(off+j)) (slot_bound (i':=0) bo% bo%)
      rw[show o+(i*e'.size+off)+j=o+(i*e'.size+(off+j)) by omega]
      exact this
     have hb:blk (ι n)=some b:=by rw[h1];simp[blk];omega
     have hsame:Same S w (setsAt w b (o+(i*e'.size+off)) vs):=fun c hcS=>setsAt_block b c (fun e=>(W.own n _ b ho hb).1 (e ▸ hcS)) _ _ _
     have hfar:∀i' j,i'≠i→j<e'.size→(setsAt w b (o+(i*e'.size+off)) vs).cell? ⟨b,o+i'*e'.size+j,none⟩=w.cell? ⟨b,o+i'*e'.size+j,none⟩:=fun i' j hne hj=>by
      rcases hoff with h0 | hoff
      ·rw[List.eq_nil_of_length_eq_zero h0];rfl
      ·apply setsAt_other
       rcases Nat.lt_or_gt_of_ne hne with hlt | hgt
       ·have:=slot_apart hlt hj;omega
       ·have:=slot_apart (i:=i') (i':=i) (size:=e'.size) (j:=e'.size-1) hgt bo%;omega
     obtain ⟨r',g1,g2,g3,_⟩:=upd_ok (w':=setsAt w b (o+(i*e'.size+off)) vs) h W ho (setsAt_os b _ _ _).1 (setsAt_os b _ _ _).2.1 (setsAt_os b _ _ _).2.2 (by rw[setsAt_size];exact Nat.le_refl _)
      (fun c _ hcb=>setsAt_block b c (fun e=>hcb (by rw[hb,e])) _ _ _)
      ⟨h0,some ⟨b,o,none⟩,cap,by rw[h1,List.length_set],by rw[List.length_set];exact h5,.inr ⟨b,o,rfl,fun k hk=>⟨setsAt_some b _ _ _ _ (h8 k hk).1,by rw[setsAt_frozen];exact (h8 k hk).2⟩,(by
       intro i' x' hx'
       rw[List.getElem?_set] at hx'
       split at hx'
       ·rename_i e
        subst e
        rw[←Option.some.inj hx']
        refine ⟨_,hR.mono (fun _ h=>h) hsame,fun j v hv=>?_⟩
        have hjs:j<e'.size:=by have:=(List.getElem?_eq_some_iff.1 hv).1;simp only[List.length_append,List.length_take,List.length_drop,hwl] at this;omega
        by_cases hj1:j<off
        ·rw[setsAt_other _ _ _ _ _ (.inl bo%)]
         rw[List.append_assoc,List.getElem?_append_left (by simp;omega),List.getElem?_take,if_pos hj1] at hv
         exact h11 j v hv
        ·by_cases hj2:j<off+vs.length
         ·have hv':vs[j-off]? = some v:=by
           rw[List.append_assoc,List.getElem?_append_right (by simp;omega)] at hv
           rw[List.length_take,Nat.min_eq_left bo%,List.getElem?_append_left bo%] at hv
           exact hv
          have:=setsAt_cells b _ vs w (fun j hj=>(hcell j hj).1) (j-off) v hv'
          rwa [show o+(i*e'.size+off)+(j-off)=o+i*e'.size+j by omega] at this
         ·rw[setsAt_other _ _ _ _ _ (.inr bo%)]
          rw[List.getElem?_append_right (by simp;omega),List.getElem?_drop] at hv
          exact h11 j v (by rw[←hv];congr 1;simp;omega)
       ·rename_i e
        obtain ⟨ws',c1,c2⟩:=h9 i' x' hx'
        exact ⟨ws',c1.mono (fun _ h=>h) hsame,fun j v hv=>by
         have hjs:j<e'.size:=by have:=(List.getElem?_eq_some_iff.1 hv).1;rw[c1.len] at this;exact this
         rw[hfar i' j (Ne.symm e) hjs];exact c2 j v hv⟩)⟩⟩
     exact ⟨b,_,r',h3,hcell,g1,g2,g3⟩
    ·cases h
   ·cases h
  ·cases h
end Go.VM
namespace Go.VM
open Go.RowKit
variable {P:Program} {Γ:Ctx} {θ:Nat→Value} {N:Nat} {w0:World} {M0 S0:Nat→Prop} {ι0:Nat→Value} {r:Env} {ι:Nat→Value} {S:Nat→Prop} {a:Act} {w:World} {R:Type}
theorem CV.frb_not {n:Nat} {e:Ty} {x:e.den} {c:CV} (h:n ∉ c.names):c.frb n e x=c:=by
 cases c <;> try rfl
 rename_i m off
 simp only[CV.names,List.mem_singleton] at h
 simp only[CV.frb,nbeq,Bool.cond_decide,if_neg (Ne.symm h)]
theorem cfrb_not {n:Nat} {e:Ty} {x:e.den}:∀ {cs:List CV},n ∉ cnames cs→cs.map (·.frb n e x)=cs
 | [],_=>rfl
 | c :: cs,h=>by
  simp only[cnames,List.mem_append,not_or] at h
  rw[List.map_cons,CV.frb_not h.1,cfrb_not h.2]
theorem TV.frb_not {n:Nat} {e:Ty} {x:e.den} {v:TV} (h:n ∉ v.names):v.frb n e x=v:=by
 cases v with
 | one c=>simp only[TV.names,cellsOf,cnames,List.append_nil] at h;simp[TV.frb,CV.frb_not h]
 | agg cs=>simp only[TV.names,cellsOf] at h;simp[TV.frb,cfrb_not h]
theorem tfrb_not {n:Nat} {e:Ty} {x:e.den}:∀ {vs:List TV},n ∉ tnames vs→vs.map (·.frb n e x)=vs
 | [],_=>rfl
 | c :: cs,h=>by
  simp only[tnames,List.mem_append,not_or] at h
  rw[List.map_cons,TV.frb_not h.1,tfrb_not h.2]
theorem SV.frb_not {n:Nat} {e:Ty} {x:e.den} {v:SV} (h:n ∉ v.names):v.frb n e x=v:=by
 cases v with
 | t v=>simp only[SV.frb,TV.frb_not h]
 | tup vs=>simp only[SV.frb,tfrb_not h]
theorem Ob.frb_not {n:Nat} {e:Ty} {x:e.den} {v:Ob} (h:n ∉ v.names):v.frb n e x=v:=by
 cases v with
 | row _ _=>rfl
 | box cs=>simp only[Ob.frb,cfrb_not h]
section
variable {n:Nat} {e:Ty} {x:e.den} {S':Nat→Prop}
def Held (ι θ:Nat→Value) (S':Nat→Prop) (w:World) (n:Nat) (e:Ty) (x:e.den):Prop :=
 ∃b vs,ι n=.pointer (some ⟨b,0,none⟩)∧S' b∧RepC θ S' w e x vs∧CellsAt w b 0 vs
theorem RCV.frb (hs:∀b,S b→S' b) (hn:Held ι θ S' w n e x) {c:CV} {V:Value} (h:RCV ι θ S w c V):RCV ι θ S' w (c.frb n e x) V:=by
 have h':RCV ι θ S' w c V:=RCV.mono hs (fun _ _=>rfl) (fun _ _=>rfl) h
 cases c <;> try exact h'
 rename_i m off
 simp only[CV.frb,nbeq,Bool.cond_decide]
 split
 ·rename_i e';subst e'
  obtain ⟨b,h1,h2⟩:=h
  obtain ⟨b',vs,k1,k2,k3,k4⟩:=hn
  rw[k1] at h1
  obtain rfl:b'=b:=by simpa using h1
  exact ⟨b',0,vs,by rw[h2,Nat.zero_add],k2,k3,k4⟩
 ·exact h'
theorem RTV.frb (hs:∀b,S b→S' b) (hn:Held ι θ S' w n e x) {v:TV} {V:Value} (h:RTV ι θ S w v V):RTV ι θ S' w (v.frb n e x) V:=by
 cases v with
 | one c=>exact RCV.frb hs hn h
 | agg cs=>obtain ⟨vs,h1,h2⟩:=h;exact ⟨vs,h1,h2.map_l _ fun c V h=>RCV.frb hs hn h⟩
theorem RSV.frb (hs:∀b,S b→S' b) (hn:Held ι θ S' w n e x) {v:SV} {V:Value} (h:RSV ι θ S w v V):RSV ι θ S' w (v.frb n e x) V:=by
 cases v with
 | t v=>exact RTV.frb hs hn h
 | tup vs=>obtain ⟨us,h1,h2⟩:=h;exact ⟨us,h1,h2.map_l _ fun c V h=>RTV.frb hs hn h⟩
theorem ROb.frb (hs:∀b,S b→S' b) (hn:Held ι θ S' w n e x) {m:Nat} {o:Ob} (h:ROb ι θ S w m o):ROb ι θ S' w m (o.frb n e x):=by
 cases o with
 | row e' ys=>exact ROb.mono hs (fun _ _=>rfl) (Nat.le_refl _) rfl (fun _ _=>rfl) (fun _ _=>rfl) h
 | box cs =>
  obtain ⟨b,vs,h1,h2,h3,h4,h5⟩:=h
  exact ⟨b,vs,h1,h2,h3.map_l _ fun c V h=>RCV.frb hs hn h,h4,h5⟩
end
theorem freezeBox_ok {n:Nat} {e:Ty} {k:Env→Option R} {q:R} (h:r.freezeBox n e k=some q) (W:RepW θ N w0 M0 S0 ι0 r ι S a w) :
  ∃r' S',k r'=some q∧(∀b,S b→S' b)∧RepW θ N w0 M0 S0 ι0 r' ι S' a w∧Prot r r':=by
 unfold Env.freezeBox at h
 cases ho:r.obj n with
 | none=>rw[ho] at h;cases h
 | some o =>
  rw[ho] at h
  cases o with
  | row e xs=>cases h
  | box cs =>
   simp only at h
   split at h
   ·rename_i x hx
    obtain ⟨hb,h⟩:=bif_some h
    simp only[Bool.and_eq_true,Bool.not_eq_true',mem_false] at hb
    obtain ⟨⟨hrn,hct⟩,hco⟩:=hb
    have hgt:∀t,Env.get { r with tm:=mapV (·.frb n e x) r.tm,ob:=mapV (·.frb n e x) (del n r.ob) } t=(r.get t).map (·.frb n e x):=fun t=>look_mapV _ _ _
    have hgo:∀t,Env.obj { r with tm:=mapV (·.frb n e x) r.tm,ob:=mapV (·.frb n e x) (del n r.ob) } t=if n=t then none else (r.obj t).map (·.frb n e x):=fun t=>by
     show look _ _=_
     rw[look_mapV,look_del]
     split <;> rfl
    let S':Nat→Prop:=fun b=>S b∨blk (ι n)=some b
    have hs:∀b,S b→S' b:=fun b=>.inl
    have hn:Held ι θ S' w n e x:=by
     obtain ⟨b,vs,h1,h2,h3,h4,h5⟩:=W.obs n _ ho
     obtain ⟨v1,v2,e1,k1,k2⟩:=ofCells_ok (S':=S') hs (fun _ _ _ h=>by cases h) hx h3
     cases k2
     rw[List.append_nil] at e1
     subst e1
     exact ⟨b,_,h1,.inr (by rw[h1];rfl),k1,h4⟩
    have hsub:∀m o,Env.obj { r with tm:=mapV (·.frb n e x) r.tm,ob:=mapV (·.frb n e x) (del n r.ob) } m=some o→m≠n∧∃o',r.obj m=some o'∧o=o'.frb n e x:=fun m o hm=>by
     rw[hgo] at hm
     split at hm
     ·cases hm
     ·rename_i hne
      obtain ⟨o',h1,h2⟩:=Option.map_eq_some_iff.1 hm
      exact ⟨Ne.symm hne,o',h1,h2.symm⟩
    refine ⟨_,S',h,hs,⟨fun b hb=>hs b (W.s0 b hb),fun b hb=>?_,fun b hb=>?_,fun t v hv=>?_,fun m o hm=>?_,fun m o b hm hb=>?_,fun m m' p p' b hm hm' hmb hmb'=>?_,W.keep,W.size,W.one,W.fx,W.dfs⟩,
     ⟨rfl,rfl,fun t ht=>?_,fun m hm=>?_⟩⟩
    ·rcases hb with hb | hb
     ·exact W.sn b hb
     ·exact .inr (W.own n _ b ho hb).2
    ·rcases hb with hb | hb
     ·exact W.sb b hb
     ·exact W.blk_lt ho hb
    ·rw[hgt] at hv
     obtain ⟨u,h1,rfl⟩:=Option.map_eq_some_iff.1 hv
     exact RSV.frb hs hn (W.tms t u h1)
    ·obtain ⟨_,o',h1,rfl⟩:=hsub m o hm
     exact ROb.frb hs hn (W.obs m o' h1)
    ·obtain ⟨hne,o',h1,rfl⟩:=hsub m o hm
     refine ⟨?_,(W.own m o' b h1 hb).2⟩
     rintro (h2 | h2)
     ·exact (W.own m o' b h1 hb).1 h2
     ·exact hne (W.inj m n o' _ b h1 ho hb h2)
    ·obtain ⟨_,o',h1,_⟩:=hsub m p hm
     obtain ⟨_,o'',h2,_⟩:=hsub m' p' hm'
     exact W.inj m m' o' o'' b h1 h2 hmb hmb'
    ·rw[hgt]
     cases hv:r.get t with
     | none=>rfl
     | some v=>rw[Option.map_some,SV.frb_not (clearT_ok hct t v hv ht)]
    ·rw[hgo,if_neg (show ¬n=m from fun e=>hrn (e ▸ hm))]
     cases hv:r.obj m with
     | none=>rfl
     | some v=>rw[Option.map_some,Ob.frb_not (clearO_ok hco m v hv hm)]
   ·cases h
theorem freezeBoxes_ok {k:Env→Option R} {q:R}:∀ {l:List (Nat×Ty)} {r:Env} {S:Nat→Prop},r.freezeBoxes l k=some q→RepW θ N w0 M0 S0 ι0 r ι S a w →
  ∃r' S',k r'=some q∧(∀b,S b→S' b)∧RepW θ N w0 M0 S0 ι0 r' ι S' a w∧Prot r r'
 | [],r,S,h,W=>⟨r,S,h,fun _ h=>h,W,.refl r⟩
 | (n,e) :: l,r,S,h,W=>by
  obtain ⟨r1,S1,h1,hs1,W1,P1⟩:=freezeBox_ok h W
  obtain ⟨r2,S2,h2,hs2,W2,P2⟩:=freezeBoxes_ok h1 W1
  exact ⟨r2,S2,h2,fun b hb=>hs2 b (hs1 b hb),W2,P1.trans P2⟩
end Go.VM
namespace Go.VM
open Go.RowKit
variable {P:Program} {Γ:Ctx} {θ:Nat→Value} {N:Nat} {w0:World} {M0 S0:Nat→Prop} {ι0:Nat→Value} {r:Env} {ι:Nat→Value} {S:Nat→Prop} {a:Act} {w:World} {R:Type}
 {o:Oper} {K':Act→World→Prop} {Q:Exit→Act→World→Prop} {k:Env→Option R} {q:R}
theorem store_ok (B:Base P Γ θ w0 M0 S0) (W:RepW θ N w0 M0 S0 ι0 r ι S a w) {t:Nat} {τ:Ty} (hT:TyF P Γ.tys t τ) {x y:Operand} {p:CV} {v:TV} (ho:o.op=.store t x y) (hp:RCV ι θ S w p (a.eval x)) (hv:RTV ι θ S w v (a.eval y))
  (hl:(Nat.beq (cellsOf v).length τ.size&&okCs (cellsOf v))=true) (h:r.wr (cellsOf v) p (fun r=>r.put N o.dst undefV k)=some q) {r0:Env} (p0:Prot r0 r) (hK:Out θ N w0 M0 S0 ι0 k q r0 K'):o.wp P a w K' Q:=by
 simp only[nbeq,Bool.and_eq_true,decide_eq_true_eq] at hl
 obtain ⟨vs,h1,h2,h3⟩:=cells_of W.one B.one hv hl.2
 obtain ⟨b,off,r',e1,e2,e3,W',p'⟩:=wr_ok B W hp h2 h
 refine fin_skp ?_ e3 W' (p0.trans p') hK
 have:=run_storeAt (P:=P) hT h1 (h2.length.symm.trans hl.1) e2 h3
 simp[execOp,ho,e1,this]
theorem storeFull_ok (B:Base P Γ θ w0 M0 S0) (W:RepW θ N w0 M0 S0 ι0 r ι S a w) {t:Nat} {x y:Operand} (ho:o.op=.store t x y)
  (h:(match Γ.ty t,r.evc Γ x,r.eval Γ y with
  | some τ,some p,some (.t w)=>bif Nat.beq (cellsOf w).length τ.size&&okCs (cellsOf w) then
    match p with
    | .elm _ _ _ _=>r.freezeAll w.names fun r=>match r.eval Γ y with
     | some (.t w)=>bif Nat.beq (cellsOf w).length τ.size&&okCs (cellsOf w) then r.wr (cellsOf w) p fun r=>r.put N o.dst undefV k else none
     | _=>none
    | p=>r.wr (cellsOf w) p fun r=>r.put N o.dst undefV k
   else none
  | _,_,_=>none)=some q) (hK:Out θ N w0 M0 S0 ι0 k q r K'):o.wp P a w K' Q:=by
 split at h
 ·rename_i τ p v ht hp hv
  obtain ⟨hl,h⟩:=bif_some h
  have hp':=evc_ok B W hp
  have hT:=B.ty t τ ht
  split at h
  ·rename_i n e i off
   obtain ⟨r1,S1,h1,hs1,W1,p1⟩:=freezeAll_ok h W
   split at h1
   ·rename_i v1 hv1
    obtain ⟨hl1,h1⟩:=bif_some h1
    exact store_ok B W1 hT ho (RCV.mono hs1 (fun _ _=>rfl) (fun _ _=>rfl) hp') (eval_ok B W1 hv1) hl1 h1 p1 hK
   ·cases h1
  ·exact store_ok B W hT ho hp' (eval_ok B W hv) hl h (.refl r) hK
 ·cases h
structure NewB (w w1:World) (c:Array Value):Prop where
 below:Below w.heap.size w w1
 size:w1.heap.size=w.heap.size+1
 cell:∀j,w1.cell? ⟨w.heap.size,j,none⟩=c[j]?
 frozen:∀j,j<c.size→w1.frozen? ⟨w.heap.size,j,none⟩=false
theorem newB_alloc (w:World) (c:Array Value) (t:TypeId):NewB w (w.alloc (.cells c t)) c :=
 ⟨(Below.refl _ w).alloc (Nat.le_refl _) _,by simp,fun j=>by simp,fun j _=>by simp⟩
theorem newB_drew {w w1:World} {c:Array Value} (h:NewB w.drew w1 c):NewB w w1 c :=
 ⟨⟨h.below.os,h.below.tape,h.below.output,h.below.size,h.below.block⟩,h.size,h.cell,h.frozen⟩
theorem RepW.fresh (W:RepW θ N w0 M0 S0 ι0 r ι S a w):(¬S w.heap.size∧(M0 w.heap.size∨w0.heap.size≤w.heap.size))∧∀m o',r.obj m=some o'→blk (ι m)≠some w.heap.size :=
 ⟨⟨fun h=>Nat.lt_irrefl _ (W.sb _ h),.inr W.keep.size⟩,fun _ _ h e=>Nat.lt_irrefl _ (W.blk_lt h e)⟩
theorem row_ok (W:RepW θ N w0 M0 S0 ι0 r ι S a w) {n:Nat} {e:Ty} {xs:List e.den} {k:Env→Option R} (h:r.new n (.row e xs) k=some q) {w1:World} {c:Array Value} (hw:NewB w w1 c) (he:0<e.size) {cap:Nat} (hcap:xs.length≤cap)
  (hcs:cap*e.size≤c.size) (hx:∀i x,xs[i]? = some x→∃ws,RepC θ S w e x ws∧∀j v,ws[j]? = some v→c[i*e.size+j]? = some v) :
  ∃r',k r'=some q∧RepW θ N w0 M0 S0 ι0 r' (upd ι n (.slice (some ⟨w.heap.size,0,none⟩) xs.length cap)) S a w1∧Prot r r'∧r'.tm=r.tm∧r'.obj n=some (.row e xs)∧∀m,m≠n→r'.obj m=r.obj m:=by
 have W1:=W.below hw.below
 have hS:Same S w w1:=fun b hb=>hw.below.block b (W.sb b hb)
 suffices H:ROb (upd ι n (.slice (some ⟨w.heap.size,0,none⟩) xs.length cap)) θ S w1 n (.row e xs)∧∀b,blk (.slice (some ⟨w.heap.size,0,none⟩) xs.length cap)=some b→(¬S b∧(M0 b∨w0.heap.size≤b))∧∀m o',r.obj m=some o'→blk (ι m)≠some b by
  obtain ⟨r',h1,W2,p,h2,h3,h4⟩:=new_ok (V:=.slice (some ⟨w.heap.size,0,none⟩) xs.length cap) rfl h W1 H.1 H.2
  exact ⟨r',h1,W2,p,h3,h2,h4⟩
 constructor
 ·refine ⟨he,some ⟨w.heap.size,0,none⟩,cap,by rw[upd_same],hcap,.inr ⟨w.heap.size,0,rfl,fun k hk=>?_,fun i x hi=>?_⟩⟩
  ·rw[Nat.zero_add,hw.cell]
   exact ⟨⟨_,Array.getElem?_eq_getElem bo%⟩,hw.frozen k bo%⟩
  ·obtain ⟨ws,c1,c2⟩:=hx i x hi
   exact ⟨ws,c1.mono (fun _ h=>h) hS,fun j v hv=>by rw[Nat.zero_add,hw.cell];exact c2 j v hv⟩
 ·intro b hb
  simp only[blk] at hb
  split at hb
  ·cases hb
  ·obtain rfl:w.heap.size=b:=by simpa using hb
   exact W.fresh
theorem box_ok (W:RepW θ N w0 M0 S0 ι0 r ι S a w) {n:Nat} {cs:List CV} {vs:List Value} {k:Env→Option R} (h:r.new n (.box cs) k=some q) {w1:World} (hw:NewB w w1 ⟨vs⟩) (hc:All2 (RCV ι θ S w) cs vs) (hn:n ∉ cnames cs) :
  ∃r',k r'=some q∧RepW θ N w0 M0 S0 ι0 r' (upd ι n (.pointer (some ⟨w.heap.size,0,none⟩))) S a w1∧Prot r r':=by
 have W1:=W.below hw.below
 have hS:Same S w w1:=fun b hb=>hw.below.block b (W.sb b hb)
 suffices H:ROb (upd ι n (.pointer (some ⟨w.heap.size,0,none⟩))) θ S w1 n (.box cs)∧∀b,blk (.pointer (some ⟨w.heap.size,0,none⟩))=some b→(¬S b∧(M0 b∨w0.heap.size≤b))∧∀m o',r.obj m=some o'→blk (ι m)≠some b by
  obtain ⟨r',h1,W2,p,_⟩:=new_ok (V:=.pointer (some ⟨w.heap.size,0,none⟩)) rfl h W1 H.1 H.2
  exact ⟨r',h1,W2,p⟩
 constructor
 ·refine ⟨w.heap.size,vs,by rw[upd_same],by rw[hw.size];omega,hc.mono_mem fun c V hcm hcV=>RCV.mono (fun _ h=>h) hS (fun m hm=>upd_ne (show m≠n from fun e=>hn (e ▸ cnames_mem hcm hm))) hcV,fun j v hv=>?_,fun j hj=>hw.frozen j hj⟩
  rw[Nat.zero_add,hw.cell];simpa using hv
 ·intro b hb
  obtain rfl:w.heap.size=b:=by simpa [blk] using hb
  exact W.fresh
theorem cnames_tm {v:TV} {n t:Nat} {r:Env} (hf:r.fresh n=true) (h:r.get t=some (.t v)):n ∉ v.names:=by
 simp only[Env.fresh,Bool.and_eq_true] at hf
 exact freshT_ok hf.1 t _ h
theorem names_ofVals (vs:List Value):cnames (vs.map ofVal)=[]:=by
 induction vs with
 | nil=>rfl
 | cons v vs ih =>
  simp only[List.map_cons,cnames,ih,List.append_nil]
  cases v <;> rfl
theorem names_const (c:Value) {v:TV} (h:ofValue c=.t v):v.names=[]:=by
 cases c <;> simp only[ofValue] at h
 case agg cs=>cases h;exact names_ofVals _
 case tuple vs=>split at h <;> cases h;rfl
 all_goals (cases h;rfl)
theorem eval_fresh {x:Operand} {v:TV} {n:Nat} (hf:r.fresh n=true) (h:r.eval Γ x=some (.t v)):n ∉ v.names:=by
 cases x with
 | tmp t=>exact cnames_tm hf h
 | const c=>rw[names_const c (Option.some.inj h)];simp
 | func f=>cases h
 | global g =>
  simp only[Env.eval] at h
  split at h
  ·cases h;simp[TV.names,cellsOf,cnames,CV.names]
  ·cases h
theorem zeroCells_ok {S':Nat→Prop} {w':World} {ι' θ':Nat→Value}:∀ {cs:List CV} {vs:List Value},All2 (RCV (fun _=>.nilFunc) (fun _=>.nilFunc) (fun _=>False) default) cs vs→(∀c,c∈cs→c.names=[]∧(∀n,c≠.opq n)∧okC c=true)→All2 (RCV ι' θ' S' w') cs vs
 | _,_,.nil,_=>.nil
 | _,_,.cons (x:=c) h hs,hn=>by
  refine .cons ?_ (zeroCells_ok hs fun c hc=>hn c (by simp[hc]))
  obtain ⟨h1,h2,h3'⟩:=hn c (by simp)
  cases c with
  | clo _ _ _ _ _ _=>cases h3'
  | imm e xs =>
   obtain ⟨p,cap,e1,hl,h3⟩:=h
   refine ⟨p,cap,e1,hl,.inl ?_⟩
   rcases h3 with h3 | ⟨b,o,_,hb,_⟩
   ·exact h3
   ·exact hb.elim
  | idx t x off=>obtain ⟨b,o,ws,_,hb,_⟩:=h;exact hb.elim
  | opq n=>exact absurd rfl (h2 n)
  | sl n=>simp[CV.names] at h1
  | ref n off=>simp[CV.names] at h1
  | elm n e i off=>simp[CV.names] at h1
  | _=>exact h
theorem zeroCells_plain:∀(t:Ty) (c:CV),c∈zeroCells t→c.names=[]∧(∀n,c≠.opq n)∧okC c=true
 | .unit,c,h=>by cases h
 | .pair a b,c,h=>by
  rcases List.mem_append.1 h with h | h
  ·exact zeroCells_plain a c h
  ·exact zeroCells_plain b c h
 | .int k,c,h=>by simp only[zeroCells,List.mem_singleton] at h;subst h;exact ⟨rfl,(fun _ h=>by cases h),rfl⟩
 | .bool,c,h=>by simp only[zeroCells,List.mem_singleton] at h;subst h;exact ⟨rfl,(fun _ h=>by cases h),rfl⟩
 | .str,c,h=>by simp only[zeroCells,List.mem_singleton] at h;subst h;exact ⟨rfl,(fun _ h=>by cases h),rfl⟩
 | .lst e,c,h=>by simp only[zeroCells,List.mem_singleton] at h;subst h;exact ⟨rfl,(fun _ h=>by cases h),rfl⟩
 | .opq,c,h=>by cases h
 | .adr _,c,h=>by cases h
 | .rd _,c,h=>by cases h
 | .err,c,h=>by simp only[zeroCells,List.mem_singleton] at h;subst h;exact ⟨rfl,(fun _ h=>by cases h),rfl⟩
theorem zeroCells_names (t:Ty):cnames (zeroCells t)=[]:=by
 have:∀cs:List CV,(∀c,c∈cs→c.names=[])→cnames cs=[]:=fun cs=>by
  induction cs with
  | nil=>intro _;rfl
  | cons c cs ih=>intro h;simp[cnames,h c (by simp),ih fun c hc=>h c (by simp[hc])]
 exact this _ fun c hc=>(zeroCells_plain t c hc).1
theorem run_alloc {t:Nat} {τ:Ty} (hT:TyF P Γ.tys t τ):∃vs,(Instr.alloc t true (.tuple #[])).run P w=.ok (.pointer (some ⟨w.heap.size,0,none⟩)) (w.alloc (.cells ⟨vs⟩ t))∧∀ι' θ' S' w',All2 (RCV ι' θ' S' w') (zeroCells τ) vs:=by
 obtain ⟨_,i,z,vs,h1,h2,_,h3,h4,h5⟩:=hT
 refine ⟨vs,?_,fun _ _ _ _=>zeroCells_ok h5 (zeroCells_plain τ)⟩
 simp[Instr.alloc,zeroValue,typeInfo,h1,h3,newVar,newRow,h4]
theorem new_fresh {n:Nat} {ob:Ob} (h:r.new n ob k=some q):r.fresh n=true:=by
 obtain ⟨h,_⟩:=bif_some h
 simp only[Bool.and_eq_true] at h
 exact h.1.1
theorem alloc_ok (B:Base P Γ θ w0 M0 S0) (W:RepW θ N w0 M0 S0 ι0 r ι S a w) {t:Nat} (ho:o.op=.alloc t)
  (h:(match Γ.ty t with
  | some τ=>r.new (nm (o.dst.getD 0) 0) (.box (zeroCells τ)) fun r=>r.put N o.dst (.c (.ref (nm (o.dst.getD 0) 0) 0)) k
  | none=>none)=some q) (hK:Out θ N w0 M0 S0 ι0 k q r K'):o.wp P a w K' Q:=by
 split at h
 ·rename_i τ ht
  obtain ⟨vs,h1,h2⟩:=run_alloc (P:=P) (w:=w) (B.ty t τ ht)
  obtain ⟨r',h3,W',p⟩:=box_ok W h (newB_alloc w ⟨vs⟩ t) (h2 _ _ _ _) (by rw[zeroCells_names];simp)
  refine fin ?_ h3 W' p (v:=.c (.ref _ 0)) ⟨w.heap.size,by rw[upd_same],rfl⟩ hK
  simp[execOp,ho,h1]
 ·cases h
theorem boxv_ok (B:Base P Γ θ w0 M0 S0) (W:RepW θ N w0 M0 S0 ι0 r ι S a w) {t:Nat} {x:Operand} (ho:o.op=.box t x)
  (h:(match Γ.ty t,r.eval Γ x with
  | some τ,some (.t w)=>bif Nat.beq (cellsOf w).length τ.size&&okCs (cellsOf w) then
    r.new (nm (o.dst.getD 0) 0) (.box (cellsOf w)) fun r=>r.put N o.dst (.c (.ref (nm (o.dst.getD 0) 0) 0)) k
   else none
  | _,_=>none)=some q) (hK:Out θ N w0 M0 S0 ι0 k q r K'):o.wp P a w K' Q:=by
 split at h
 ·rename_i τ v ht hv
  obtain ⟨hl,h⟩:=bif_some h
  simp only[nbeq,Bool.and_eq_true,decide_eq_true_eq] at hl
  obtain ⟨vs,h1,h2,_⟩:=cells_of W.one B.one (eval_ok B W hv) hl.2
  obtain ⟨r',h3,W',p⟩:=box_ok W h (newB_alloc w ⟨vs⟩ t) h2 (eval_fresh (new_fresh h) hv)
  refine fin ?_ h3 W' p (v:=.c (.ref _ 0)) ⟨w.heap.size,by rw[upd_same],rfl⟩ hK
  simp[execOp,ho,Instr.box,newVar,newRow,h1]
 ·cases h
end Go.VM
namespace Go.VM
open Go.RowKit
variable {P:Program} {Γ:Ctx} {θ:Nat→Value} {N:Nat} {w0:World} {M0 S0:Nat→Prop} {ι0:Nat→Value} {r:Env} {ι:Nat→Value} {S:Nat→Prop} {a:Act} {w:World} {R:Type}
 {o:Oper} {K':Act→World→Prop} {Q:Exit→Act→World→Prop} {k:Env→Option R} {q:R}
theorem un_ok (B:Base P Γ θ w0 M0 S0) (W:RepW θ N w0 M0 S0 ι0 r ι S a w) {op:UnOp} {t:TypeId} {x:Operand}
  (h:(match op,r.evc Γ x with
  | .not,some (.bool b)=>r.put N o.dst (.c (.bool (!b))) k
  | .neg,some (.int q n)=>r.put N o.dst (.c (.int q (q.wrap (0-n)))) k
  | _,_=>none)=some q) (ho:o.op=.unOp op t x) (hK:Out θ N w0 M0 S0 ι0 k q r K'):o.wp P a w K' Q:=by
 split at h
 ·rename_i b hb
  have e:a.eval x=.bool b:=evc_ok B W hb
  exact fin (V:=.bool (!b)) (by simp[execOp,ho,e,Op.unary]) h W (.refl r) rfl hK
 ·rename_i kd n hn
  have e:a.eval x=.int kd n:=evc_ok B W hn
  exact fin (V:=.int kd (kd.wrap (0-n))) (by simp[execOp,ho,e,Op.unary,Op.intArith]) h W (.refl r) rfl hK
 ·cases h
theorem nil_ok (B:Base P Γ θ w0 M0 S0) (W:RepW θ N w0 M0 S0 ι0 r ι S a w) {x:Operand} (ho:o.op=.nilCheck x)
  (h:(match r.evc Γ x with
  | some (.ref n off)=>r.put N o.dst (.c (.ref n off)) k
  | some (.elm n e i off)=>r.put N o.dst (.c (.elm n e i off)) k
  | some (.idx e x off)=>r.put N o.dst (.c (.idx e x off)) k
  | _=>none)=some q) (hK:Out θ N w0 M0 S0 ι0 k q r K'):o.wp P a w K' Q:=by
 split at h
 ·rename_i n off hn
  have e:=evc_ok B W hn
  obtain ⟨b,h1,h2⟩:=e
  exact fin (V:=a.eval x) (by simp[execOp,ho,h2]) h W (.refl r) (show RCV ι θ S w (.ref n off) _ from ⟨b,h1,h2⟩) hK
 ·rename_i n e i off hn
  have e:=evc_ok B W hn
  have e':=e
  obtain ⟨b,_,_,_,_,_,h2⟩:=e'
  exact fin (V:=a.eval x) (by simp[execOp,ho,h2]) h W (.refl r) (show RCV ι θ S w (.elm n _ i off) _ from e) hK
 ·rename_i e' y off hn
  have e:=evc_ok B W hn
  have e':=e
  obtain ⟨b,_,_,h2,_⟩:=e'
  exact fin (V:=a.eval x) (by simp[execOp,ho,h2]) h W (.refl r) (show RCV ι θ S w (.idx _ y off) _ from e) hK
 ·cases h
theorem TyF.struct {tys:List (Nat×Ty)} {t:Nat} {τ:Ty} {f off:Nat} {σ:Ty} (h:TyF P tys t τ) (hf:τ.field f=some (off,σ)) :
  ∃fs fd,P.underlying t=some (.struct fs)∧fs[f]? = some fd∧fd.offset=off∧look tys fd.type=some σ:=by
 obtain ⟨⟨d,h1,h2⟩,_⟩:=h
 cases h2 with
 | struct _ fs _ _ hfs=>obtain ⟨fd,h3,h4,h5⟩:=hfs f off σ hf;exact ⟨fs,fd,h1,h3,h4,h5⟩
 | _=>cases hf
theorem fieldAddr_ok (B:Base P Γ θ w0 M0 S0) (W:RepW θ N w0 M0 S0 ι0 r ι S a w) {t:Nat} {x:Operand} {f:Nat} (ho:o.op=.fieldAddr t x f)
  (h:(match Γ.ty t,r.evc Γ x with
  | some τ,some c=>match τ.field f with
   | some (off,σ)=>bif Nat.blt 0 σ.size then match c with
    | .ref n o0=>r.put N o.dst (.c (.ref n (o0+off))) k
    | .elm n e i o0=>r.put N o.dst (.c (.elm n e i (o0+off))) k
    | .idx e x o0=>r.put N o.dst (.c (.idx e x (o0+off))) k
    | _=>none else none
   | none=>none
  | _,_=>none)=some q) (hK:Out θ N w0 M0 S0 ι0 k q r K'):o.wp P a w K' Q:=by
 split at h
 ·rename_i τ c ht hc
  split at h
  ·rename_i off σ hf
   obtain ⟨hz,h⟩:=bif_some h
   have hz:0<σ.size:=by simpa [Nat.blt_eq] using hz
   obtain ⟨fs,fd,h1,h2,h3,h4⟩:=(B.ty t τ ht).struct hf
   have hs:=run_sizeOf' (P:=P) (w:=w) (B.ty _ _ h4)
   have key:∀b o0,a.eval x=.pointer (some ⟨b,o0,none⟩)→(execOp a.eval o).run P w=.ok (.value (.pointer (some ⟨b,o0+off,none⟩))) w:=fun b o0 e=>by
    have hz':σ.size≠0:=by omega
    simp[execOp,ho,e,Instr.fieldAt,run_underlying h1,h2,Instr.sureAddr,fieldPlace,hs,hz',h3,Addr.add_lit]
   have ec:=evc_ok B W hc
   split at h
   ·obtain ⟨b,e1,e2⟩:=ec
    exact fin (key b _ e2) h W (.refl r) ⟨b,e1,rfl⟩ hK
   ·obtain ⟨b,o1,len,cap,e1,e3,e2⟩:=ec
    exact fin (key b _ e2) h W (.refl r) ⟨b,o1,len,cap,e1,e3,by simp[Nat.add_assoc]⟩ hK
   ·obtain ⟨b,o1,ws,e2,e3,e4,e5⟩:=ec
    exact fin (key b _ e2) h W (.refl r) ⟨b,o1,ws,by simp[Nat.add_assoc],e3,e4,e5⟩ hK
   ·cases h
  ·cases h
 ·cases h
theorem run_part {t:Nat} {σ:Ty} (hT:TyF P Γ.tys t σ) {vs:List Value} {off:Nat} (h:off+σ.size≤vs.length) :
  (part t ⟨vs⟩ off).run P w=.ok (aggOf σ ((vs.drop off).take σ.size)) w:=by
 simp only[part,Sem.run_bind,run_isAgg hT,Result.andThen_ok,aggOf]
 cases hs:σ.isS with
 | true =>
  simp only[if_true,Sem.run_bind,run_sizeOf' hT,Result.andThen_ok,Sem.run_pure]
  congr 2
  apply Array.ext'
  simp only[Array.toList_extract,List.extract_eq_take_drop]
  rw[show off+σ.size-off=σ.size by omega]
 | false =>
  have h1:σ.size=1:=by cases σ <;> first | rfl | cases hs
  have hlt:off<vs.length:=by omega
  simp only[Bool.false_eq_true,if_false,h1]
  have e:(⟨vs⟩:Array Value)[off]? = some vs[off]:=by simp[hlt]
  rw[e]
  simp only[Sem.run_pure]
  congr 1
  rw[List.drop_eq_getElem_cons hlt]
  rfl
theorem field_ok (B:Base P Γ θ w0 M0 S0) (W:RepW θ N w0 M0 S0 ι0 r ι S a w) {t:Nat} {x:Operand} {f:Nat} (ho:o.op=.field t x f)
  (h:(match Γ.ty t,r.eval Γ x with
  | some τ,some (.t (.agg cs))=>match τ.field f with
   | some (off,σ)=>match bif Nat.ble (off+σ.size) cs.length then asTV σ ((cs.drop off).take σ.size) else none with
    | some v=>r.put N o.dst (.t v) k
    | none=>none
   | none=>none
  | _,_=>none)=some q) (hK:Out θ N w0 M0 S0 ι0 k q r K'):o.wp P a w K' Q:=by
 split at h
 ·rename_i τ cs ht hc
  split at h
  ·rename_i off σ hf
   split at h
   ·rename_i v hv
    obtain ⟨hl,hv⟩:=bif_some hv
    have hl:=Nat.le_of_ble_eq_true hl
    obtain ⟨fs,fd,h1,h2,h3,h4⟩:=(B.ty t τ ht).struct hf
    obtain ⟨vs,e1,e2⟩:=eval_ok B W hc
    rw[e2.length] at hl
    have hp:=run_part (P:=P) (w:=w) (B.ty _ _ h4) hl
    refine fin (V:=aggOf σ ((vs.drop off).take σ.size)) ?_ h W (.refl r) (asTV_ok hv ((e2.drop off).take σ.size)) hK
    simp[execOp,ho,e1,Instr.field,run_underlying h1,h2,asAgg,h3,hp]
   ·cases h
  ·cases h
 ·cases h
theorem TyF.strT {tys:List (Nat×Ty)} {t:Nat} (h:TyF P tys t .str):P.underlying t=some .string:=by
 obtain ⟨⟨d,h1,h2⟩,_⟩:=h
 cases h2 with
 | str=>exact h1
 | struct _ _ _ hs=>cases hs
theorem TyF.lstT {tys:List (Nat×Ty)} {t:Nat} {e:Ty} (h:TyF P tys t (.lst e)):∃te,P.underlying t=some (.slice te)∧look tys te=some e:=by
 obtain ⟨⟨d,h1,h2⟩,_⟩:=h
 cases h2 with
 | lst e te hte=>exact ⟨te,h1,hte⟩
 | struct _ _ _ hs=>cases hs
theorem TyF.intT {tys:List (Nat×Ty)} {t:Nat} {kd:IntKind} (h:TyF P tys t (.int kd)):P.underlying t=some (.int kd):=by
 obtain ⟨⟨d,h1,h2⟩,_⟩:=h
 cases h2 with
 | int=>exact h1
 | struct _ _ _ hs=>cases hs
theorem getElem_mkB (l:Bs) (i:Nat):(mkB l)[i]? = l[i]?:=by
 by_cases h:i<l.length
 ·have h':i<(mkB l).size:=h
  rw[getElem?_pos (mkB l) i h',List.getElem?_eq_getElem h]
  rfl
 ·have h':¬i<(mkB l).size:=h
  rw[getElem?_neg (mkB l) i h',List.getElem?_eq_none bo%]
theorem index_ok (B:Base P Γ θ w0 M0 S0) (W:RepW θ N w0 M0 S0 ι0 r ι S a w) {t:Nat} {x i:Operand} (ho:o.op=.index t x i)
  (h:(match Γ.ty t,r.evc Γ x,r.evc Γ i with
  | some .str,some (.str l),some (.int _ i)=>grd (decide (0≤i)) (grd (decide (i<(l.length:Int))) (r.put N o.dst (.c (.int .u8 (bt l i))) k))
  | _,_,_=>none)=some q) (hK:Out θ N w0 M0 S0 ι0 k q r K'):o.wp P a w K' Q:=by
 split at h
 ·rename_i l kd n ht hx hi
  obtain ⟨h0,h⟩:=grd_some h
  obtain ⟨h1,h⟩:=grd_some h
  have h0:=of_decide_eq_true h0
  have h1:=of_decide_eq_true h1
  have ex:a.eval x=.string (mkB l):=evc_ok B W hx
  have ei:a.eval i=.int kd n:=evc_ok B W hi
  have hn:n.toNat<l.length:=by omega
  refine fin (V:=.int .u8 (bt l n)) ?_ h W (.refl r) rfl hK
  have hb:bt l n=(l[n.toNat].toNat:Int):=by unfold bt;simp[List.getD,List.getElem?_eq_getElem hn]
  simp only[execOp,ho,ex,ei,Instr.index,asIntOf,Sem.run_bind,Sem.run_pure,Result.andThen_ok,run_underlying (B.ty _ _ ht).strT,h0,if_true,getElem_mkB,List.getElem?_eq_getElem hn,hb]
 ·cases h
theorem All2.get {α β:Type} {Q:α→β→Prop} {xs:List α} {ys:List β} (h:All2 Q xs ys):∀ {i:Nat} {x:α} {l:List α},xs.drop i=x :: l→∃y,ys[i]? = some y∧Q x y:=by
 induction h with
 | nil=>intro i x l h;simp at h
 | cons h hs ih=>intro i x l e;cases i with
  | zero=>cases e;exact ⟨_,rfl,h⟩
  | succ i=>obtain ⟨y,h1,h2⟩:=ih (by simpa using e);exact ⟨y,by simpa using h1,h2⟩
theorem extract_ok (B:Base P Γ θ w0 M0 S0) (W:RepW θ N w0 M0 S0 ι0 r ι S a w) {x:Operand} {i:Nat} (ho:o.op=.extract x i)
  (h:(match r.eval Γ x with
  | some (.tup vs)=>match vs.drop i with
   | v :: _=>r.put N o.dst (.t v) k
   | []=>none
  | _=>none)=some q) (hK:Out θ N w0 M0 S0 ι0 k q r K'):o.wp P a w K' Q:=by
 split at h
 ·rename_i vs hv
  split at h
  ·rename_i v l hl
   obtain ⟨us,e1,e2⟩:=eval_ok B W hv
   obtain ⟨u,h1,h2⟩:=e2.get hl
   refine fin (V:=u) ?_ h W (.refl r) h2 hK
   simp[execOp,ho,e1,Instr.extract,h1]
  ·cases h
 ·cases h
theorem len_ok (B:Base P Γ θ w0 M0 S0) (W:RepW θ N w0 M0 S0 ι0 r ι S a w) {t:Nat} {x:Operand} {c:Call} (ho:o.op=.call c) (hc:c.callee=.builtin .len) (ha:c.args.toList=[x]) (hts:c.argTypes.toList=[t])
  (h:stepLen Γ N r o.dst t x k=some q) (hK:Out θ N w0 M0 S0 ι0 k q r K'):o.wp P a w K' Q:=by
 have ea:c.args = #[x]:=Array.toList_inj.1 (by simpa using ha)
 have et:c.argTypes = #[t]:=Array.toList_inj.1 (by simpa using hts)
 unfold stepLen at h
 split at h
 ·rename_i l hx
  have ex:a.eval x=.string (mkB l):=evc_ok B W hx
  split at h
  ·rename_i ht
   refine fin (V:=.int .i64 l.length) ?_ h W (.refl r) rfl hK
   have:(mkB l).size=l.length:=rfl
   simp[execOp,ho,resolve,hc,ea,et,invoke,builtin,Builtin.len_,ex,run_underlying (B.ty _ _ ht).strT,goInt,this]
  ·cases h
 ·rename_i cv hno hx
  clear hno
  obtain ⟨hs,h'⟩:=bif_some h
  clear h
  have h:=h'
  clear h'
  have ec:=evc_ok B W hx
  have ⟨e,ht⟩:∃e,Γ.ty t=some (.lst e):=by
   revert hs
   unfold lstTy
   split
   ·rename_i e he;intro _;exact ⟨e,he⟩
   ·intro hs;cases hs
  obtain ⟨te,hu,_⟩:=(B.ty _ _ ht).lstT
  have key:∀p n cap,a.eval x=.slice p n cap→(execOp a.eval o).run P w=.ok (.value (.int .i64 n)) w:=fun p n cap ex=>by
   simp[execOp,ho,resolve,hc,ea,et,invoke,builtin,Builtin.len_,ex,run_underlying hu,goInt]
  unfold stepLenL at h
  split at h
  ·obtain ⟨p,cap,h1,_⟩:=ec
   exact fin (key p _ cap (List.cons.inj h1).1) h W (.refl r) rfl hK
  ·rename_i n
   split at h
   ·rename_i e' xs hn
    obtain ⟨_,p,cap,h1,_⟩:=W.obs n _ hn
    exact fin (key p _ cap ((show a.eval x=ι n from ec).trans h1)) h W (.refl r) rfl hK
   ·cases h
  ·rename_i v
   obtain ⟨hv,h⟩:=bif_some h
   refine fin (key none 0 0 ?_) h W (.refl r) rfl hK
   rw[show a.eval x=v from ec,isNil_eq hv]
  ·cases h
 ·cases h
theorem isLst_eq {t:Option Ty} {e:Ty} (h:(!isLst t e)=false):t=some (.lst e):=by
 revert h
 unfold isLst
 split
 ·rename_i e'
  intro h
  have:decide (e'=e)=true:=by simpa using h
  rw[of_decide_eq_true this]
 ·intro h;cases h
theorem bifn_some {b:Bool} {x:Option R} {z:R} (h:(bif b then none else x)=some z):b=false∧x=some z:=by
 cases b <;> simp_all
theorem idx_ok (B:Base P Γ θ w0 M0 S0) (W:RepW θ N w0 M0 S0 ι0 r ι S a w) {t:Nat} {x i:Operand} (ho:o.op=.indexAddr t x i) (h:stepIdx Γ N r o.dst t x i k=some q) (hK:Out θ N w0 M0 S0 ι0 k q r K'):o.wp P a w K' Q:=by
 unfold stepIdx at h
 split at h
 ·rename_i c kd n hx hi
  have ec:=evc_ok B W hx
  have ei:a.eval i=.int kd n:=evc_ok B W hi
  have key:∀e b off len cap,Γ.ty t=some (.lst e)→a.eval x=.slice (some ⟨b,off,none⟩) len cap→0≤n→n<(len:Int) →
    (execOp a.eval o).run P w=.ok (.value (.pointer (some ⟨b,off+n.toNat*e.size,none⟩))) w:=fun e b off len cap ht ex h0 h1=>by
   obtain ⟨te,hu,he⟩:=(B.ty _ _ ht).lstT
   have hz:=run_sizeOf' (P:=P) (w:=w) (B.ty _ _ he)
   simp[execOp,ho,Instr.indexAt,asIntOf,ex,ei,run_underlying hu,h0,h1,hz,Addr.add_lit]
  split at h
  ·rename_i e xs
   obtain ⟨ht,h⟩:=bifn_some h
   have ht:=isLst_eq ht
   obtain ⟨h0,h⟩:=grd_some h
   obtain ⟨h1,h⟩:=grd_some h
   have h0:=of_decide_eq_true h0
   have h1:=of_decide_eq_true h1
   have hn:n.toNat<xs.length:=by omega
   obtain ⟨p,cap,e1,_,h3⟩:=ec
   rcases h3 with h3 | ⟨b,off,rfl,hb,hel⟩
   ·subst h3;simp at hn
   ·obtain ⟨ws,c1,c2⟩:=hel n.toNat xs[n.toNat] (List.getElem?_eq_getElem hn)
    have hg:xs.getD n.toNat e.dflt=xs[n.toNat]:=by simp[List.getD,List.getElem?_eq_getElem hn]
    rw[hg] at h
    exact fin (key e b off _ cap ht (List.cons.inj e1).1 h0 h1) h W (.refl r) (show RCV ι θ S w (.idx _ _ 0) _ from ⟨b,_,ws,rfl,hb,c1,c2⟩) hK
  ·rename_i m
   split at h
   ·rename_i e xs hm
    obtain ⟨ht,h⟩:=bifn_some h
    have ht:=isLst_eq ht
    obtain ⟨h0,h⟩:=grd_some h
    obtain ⟨h1,h⟩:=grd_some h
    have h0:=of_decide_eq_true h0
    have h1:=of_decide_eq_true h1
    obtain ⟨hz,p,cap,e1,e2,e3⟩:=W.obs m _ hm
    obtain ⟨b,off,rfl,_,_⟩:=e3.resolve_left bo%
    exact fin (key e b off _ cap ht ((show a.eval x=ι m from ec).trans e1) h0 h1) h W (.refl r) (show RCV ι θ S w (.elm m _ _ 0) _ from ⟨b,off,_,cap,e1,by omega,rfl⟩) hK
   ·cases h
  ·cases h
 ·cases h
theorem min_ok (B:Base P Γ θ w0 M0 S0) (W:RepW θ N w0 M0 S0 ι0 r ι S a w) {x y:Operand} {c:Call} {mx:Bool} (ho:o.op=.call c) (hc:c.callee=.builtin (if mx then .max else .min)) (ha:c.args.toList=[x,y])
  (h:(match r.evc Γ x,r.evc Γ y with
   | some (.int q a),some (.int _ b)=>r.put N o.dst (.c (.int q (if mx then max a b else min a b))) k
   | _,_=>none)=some q) (hK:Out θ N w0 M0 S0 ι0 k q r K'):o.wp P a w K' Q:=by
 have ea:c.args = #[x,y]:=Array.toList_inj.1 (by simpa using ha)
 split at h
 ·rename_i k1 n1 k2 n2 hx hy
  have ex:a.eval x=.int k1 n1:=evc_ok B W hx
  have ey:a.eval y=.int k2 n2:=evc_ok B W hy
  refine fin (V:=.int k1 (if mx then max n1 n2 else min n1 n2)) ?_ h W (.refl r) rfl hK
  cases mx
  ·have e:min n1 n2=if n2<n1 then n2 else n1:=by rw[Int.min_def];split <;> split <;> omega
   simp[execOp,ho,resolve,hc,ea,invoke,builtin,ex,ey,run_min_int2,e]
  ·have e:max n1 n2=if n2 > n1 then n2 else n1:=by rw[Int.max_def];split <;> split <;> omega
   simp[execOp,ho,resolve,hc,ea,invoke,builtin,ex,ey,run_max_int2,e]
 ·cases h
end Go.VM
namespace Go.VM
open Go.RowKit
variable {P:Program} {Γ:Ctx} {θ:Nat→Value} {N:Nat} {w0:World} {M0 S0:Nat→Prop} {ι0:Nat→Value} {r:Env} {ι:Nat→Value} {S:Nat→Prop} {a:Act} {w:World} {R:Type}
 {o:Oper} {K':Act→World→Prop} {Q:Exit→Act→World→Prop} {k:Env→Option R} {q:R}
theorem eqFields_ok (B:Base P Γ θ w0 M0 S0) {ch:Nat→Ty→Bool} {d:Nat} (hch:∀t τ,ch t τ=true→(∃τ',look Γ.tys t=some τ'∧τ'=τ)∧∀(cs ds:List CV) (vs us:List Value) (b:Bool),
  All2 (RCV ι θ S w) cs vs→All2 (RCV ι θ S w) ds us→vs.length=τ.size→us.length=τ.size→eqC τ cs ds=some b→(Op.equalIn d t (aggOf τ vs) (aggOf τ us)).run P w=.ok b w) :
  ∀(fs:List Field) (m:Nat) (τ:Ty),chkEqF ch fs m τ=true→∀(cs ds:List CV) (vs us:List Value) (b:Bool),All2 (RCV ι θ S w) cs vs→All2 (RCV ι θ S w) ds us →
  vs.length=m+τ.size→us.length=m+τ.size→eqC τ (cs.drop m) (ds.drop m)=some b→(Op.eqFields d ⟨vs⟩ ⟨us⟩ fs).run P w=.ok b w
 | f :: fs,m,.pair a b,h,cs,ds,vs,us,r,c1,c2,l1,l2,he=>by
  simp only[chkEqF,Bool.and_eq_true,bne_iff_ne,ne_eq] at h
  obtain ⟨⟨⟨hn,ho⟩,hc⟩,hr⟩:=h
  have ho:=Nat.eq_of_beq_eq_true ho
  obtain ⟨⟨τ',ht,rfl⟩,hk⟩:=hch _ _ hc
  simp only[Ty.size] at l1 l2
  have p1:=run_part (P:=P) (w:=w) (B.ty _ _ ht) (vs:=vs) (off:=m) bo%
  have p2:=run_part (P:=P) (w:=w) (B.ty _ _ ht) (vs:=us) (off:=m) bo%
  simp only[eqC] at he
  split at he
  ·rename_i x hx
   split at he
   ·rename_i y hy
    cases he
    have e1:=hk _ _ _ _ _ ((c1.drop m).take _) ((c2.drop m).take _) (by simp;omega) (by simp;omega) hx
    simp only[Op.eqFields,hn,ho,ne_eq,not_false_eq_true,if_true,Sem.run_bind,p1,p2,Result.andThen_ok,e1]
    cases x with
    | false=>simp
    | true =>
     simp only[Bool.not_true,Bool.false_eq_true,if_false,Bool.true_and]
     rw[List.drop_drop,List.drop_drop] at hy
     exact eqFields_ok B hch fs (m+τ'.size) b hr cs ds vs us y c1 c2 bo% bo% hy
   ·cases he
  ·cases he
 | [],m,.unit,_,cs,ds,vs,us,r,c1,c2,l1,l2,he=>by
  have n1:cs.drop m=[]:=List.drop_eq_nil_of_le (by rw[c1.length,l1];exact Nat.le_refl _)
  have n2:ds.drop m=[]:=List.drop_eq_nil_of_le (by rw[c2.length,l2];exact Nat.le_refl _)
  rw[n1,n2] at he
  simp only[eqC,Option.some.injEq] at he
  subst he
  simp[Op.eqFields]
 | f :: fs,m,.unit,h,_,_,_,_,_,_,_,_,_,_=>by cases h
 | f :: fs,m,.int _,h,_,_,_,_,_,_,_,_,_,_=>by cases h
 | f :: fs,m,.bool,h,_,_,_,_,_,_,_,_,_,_=>by cases h
 | f :: fs,m,.str,h,_,_,_,_,_,_,_,_,_,_=>by cases h
 | f :: fs,m,.lst _,h,_,_,_,_,_,_,_,_,_,_=>by cases h
 | f :: fs,m,.opq,h,_,_,_,_,_,_,_,_,_,_=>by cases h
 | f :: fs,m,.adr _,h,_,_,_,_,_,_,_,_,_,_=>by cases h
 | f :: fs,m,.err,h,_,_,_,_,_,_,_,_,_,_=>by cases h
 | f :: fs,m,.rd _,h,_,_,_,_,_,_,_,_,_,_=>by cases h
 | [],m,.pair _ _,h,_,_,_,_,_,_,_,_,_,_=>by cases h
 | [],m,.int _,h,_,_,_,_,_,_,_,_,_,_=>by cases h
 | [],m,.bool,h,_,_,_,_,_,_,_,_,_,_=>by cases h
 | [],m,.str,h,_,_,_,_,_,_,_,_,_,_=>by cases h
 | [],m,.lst _,h,_,_,_,_,_,_,_,_,_,_=>by cases h
 | [],m,.opq,h,_,_,_,_,_,_,_,_,_,_=>by cases h
 | [],m,.adr _,h,_,_,_,_,_,_,_,_,_,_=>by cases h
 | [],m,.err,h,_,_,_,_,_,_,_,_,_,_=>by cases h
 | [],m,.rd _,h,_,_,_,_,_,_,_,_,_,_=>by cases h
theorem equal_ok (B:Base P Γ θ w0 M0 S0):∀(n t:Nat) (τ:Ty),chkEq P Γ.tys n t τ=true→∀d,n≤d→(∃τ',look Γ.tys t=some τ'∧τ'=τ)∧∀(cs ds:List CV) (vs us:List Value) (b:Bool),
  All2 (RCV ι θ S w) cs vs→All2 (RCV ι θ S w) ds us→vs.length=τ.size→us.length=τ.size→eqC τ cs ds=some b→(Op.equalIn d t (aggOf τ vs) (aggOf τ us)).run P w=.ok b w
 | 0,_,_,h,_,_=>by cases h
 | n+1,t,τ,h,d,hd=>by
  simp only[chkEq,Bool.and_eq_true] at h
  obtain ⟨h1,h2⟩:=h
  have hlk:∃τ',look Γ.tys t=some τ'∧τ'=τ:=by
   split at h1
   ·rename_i τ' e;exact ⟨τ',e,of_decide_eq_true h1⟩
   ·cases h1
  refine ⟨hlk,fun cs ds vs us b c1 c2 l1 l2 he=>?_⟩
  obtain ⟨τ',ht,rfl⟩:=hlk
  obtain ⟨d,rfl⟩:∃d',d=d'+1:=⟨d-1,by omega⟩
  have hT:=B.ty _ _ ht
  have hst:∀fs,P.underlying t=some (.struct fs)→τ'.isS=true→P.stoodInHeld t=false→chkEqF (chkEq P Γ.tys n) fs.toList 0 τ'=true→(Op.equalIn (d+1) t (aggOf τ' vs) (aggOf τ' us)).run P w=.ok b w:=fun fs hu hS hh hc=>by
   have hf:P.fieldsOf t=fs:=by simp[Program.fieldsOf,hu]
   simp only[aggOf,hS,if_true]
   rw[run_equalIn_struct w d t _ _ (by rw[hf];exact hu) hh,hf]
   exact eqFields_ok B (fun t σ hc=>equal_ok B n t σ hc d bo%) fs.toList 0 τ' hc cs ds vs us b c1 c2 bo% bo% (by simpa using he)
  cases τ' with
  | int kd =>
   unfold eqC at he
   split at he <;> (try cases he;done)
   all_goals rename_i e3
   all_goals (try cases e3;done)
   cases c1 with
   | cons x1 y1=>cases y1;cases c2 with
    | cons x2 y2 =>
     cases y2;simp only[RCV] at x1 x2;subst x1;subst x2
     have he':=he
     clear he
     obtain ⟨hk,he⟩:=bif_some he'
     simp only[Bool.and_eq_true,decide_eq_true_eq] at hk
     obtain ⟨rfl,rfl⟩:=hk
     cases Option.some.inj he;exact run_equalIn_int w d t _ _ _ _ hT.intT
  | bool =>
   unfold eqC at he
   split at he <;> (try cases he;done)
   all_goals rename_i e3
   all_goals (try cases e3;done)
   cases c1 with
   | cons x1 y1=>cases y1;cases c2 with
    | cons x2 y2 =>
     cases y2;simp only[RCV] at x1 x2;subst x1;subst x2;cases he
     refine run_equalIn_bool' w d t _ _ ?_
     obtain ⟨⟨dd,hd1,hd2⟩,_⟩:=hT
     cases hd2 with
     | bool=>exact hd1
     | struct _ _ _ hs=>cases hs
  | str =>
   unfold eqC at he
   split at he <;> (try cases he;done)
   all_goals rename_i e3
   all_goals (try cases e3;done)
   cases c1 with
   | cons x1 y1=>cases y1;cases c2 with
    | cons x2 y2 =>
     cases y2;simp only[RCV] at x1 x2;subst x1;subst x2;cases he
     refine (run_equalIn_string (P:=P) w d t (mkB _) (mkB _) hT.strT).trans ?_
     rw[toList_mkB,toList_mkB]
  | lst e=>cases h2
  | opq=>cases h2
  | adr t=>cases h2
  | err=>cases h2
  | rd e=>cases h2
  | unit =>
   simp only at h2
   split at h2
   ·rename_i fs hu
    simp only[Bool.and_eq_true,Bool.not_eq_true'] at h2
    exact hst fs hu rfl h2.1 h2.2
   ·cases h2
  | pair a b =>
   simp only at h2
   split at h2
   ·rename_i fs hu
    simp only[Bool.and_eq_true,Bool.not_eq_true'] at h2
    exact hst fs hu rfl h2.1 h2.2
   ·cases h2
theorem eqC_len:∀ {τ:Ty} {cs ds:List CV} {b:Bool},eqC τ cs ds=some b→cs.length=τ.size∧ds.length=τ.size:=by
 intro τ
 induction τ with
 | pair a b iha ihb =>
  intro cs ds r h
  simp only[eqC] at h
  split at h
  ·rename_i x hx
   split at h
   ·rename_i y hy
    have h1:=iha hx
    have h2:=ihb hy
    simp only[List.length_take,List.length_drop] at h1 h2
    simp only[Ty.size]
    omega
   ·cases h
  ·cases h
 | lst e=>intro cs ds r h;cases h
 | opq=>intro cs ds r h;cases h
 | adr t=>intro cs ds r h;cases h
 | err=>intro cs ds r h;cases h
 | rd e=>intro cs ds r h;cases h
 | _ =>
  intro cs ds r h
  unfold eqC at h
  split at h <;> (try cases h;done)
  all_goals (first | (simp[Ty.size];done) | (rename_i e;cases e;done) | skip)
  all_goals simp_all [Ty.size]
theorem eqIn_nil {t te:TypeId} (hu:P.underlying t=some (.slice te)) (d:Nat) (ad:Addr) (n c:Nat) (w:World):(Op.equalIn (d+1) t (.slice (some ad) n c) (.slice none 0 0)).run P w=.ok false w:=by
 simp[Op.equalIn,run_underlying hu]
theorem run_eql_sl (t:TypeId) (X Y:Value) (hX:∃a n c,X=.slice a n c) (hY:Y=.slice none 0 0) (w:World):(binOp .eql t X Y).run P w=((Op.equalIn 10000 t X Y).run P w).andThen fun b w'=>.ok (.bool b) w':=by
 obtain ⟨a,n,c,rfl⟩:=hX
 subst hY
 simp only[binOp]
 simp[Op.equal,Op.maxDepth]
theorem run_neq_sl (t:TypeId) (X Y:Value) (hX:∃a n c,X=.slice a n c) (hY:Y=.slice none 0 0) (w:World):(binOp .neq t X Y).run P w=((Op.equalIn 10000 t X Y).run P w).andThen fun b w'=>.ok (.bool !b) w':=by
 obtain ⟨a,n,c,rfl⟩:=hX
 subst hY
 simp only[binOp]
 simp[Op.equal,Op.maxDepth]
theorem nil_cmp (B:Base P Γ θ w0 M0 S0) (W:RepW θ N w0 M0 S0 ι0 r ι S a w) {op:BinOp} {t u:TypeId} {x y:Operand} {c d:CV} {n:Nat} (ho:o.op=.binOp op t x y u) (hn:nilCmp c d=some n) (hb:isSlT Γ t=true)
  (ec:RCV ι θ S w c (a.eval x)) (ed:RCV ι θ S w d (a.eval y)) (h:stepNil N r o.dst op n k=some q) (hK:Out θ N w0 M0 S0 ι0 k q r K'):o.wp P a w K' Q:=by
 obtain ⟨e,he⟩:∃e,Γ.ty t=some (.lst e):=by
  unfold isSlT lstTy at hb
  split at hb
  ·rename_i e he;exact ⟨e,he⟩
  ·cases hb
 obtain ⟨⟨dd,hd1,hd2⟩,_⟩:=B.ty t _ he
 obtain ⟨te,hu⟩:∃te,P.underlying t=some (.slice te):=by
  cases hd2 with
  | lst e te h=>exact ⟨te,hd1⟩
  | struct _ _ _ hs=>cases hs
 unfold nilCmp at hn
 split at hn
 ·rename_i e' xs v
  obtain ⟨hv,hn⟩:=bif_some hn
  cases hn
  have ey:a.eval y=.slice none 0 0:=by
   have:a.eval y=v:=ed
   rw[this]
   unfold isNil at hv
   split at hv
   ·rfl
   ·cases hv
  obtain ⟨p,cap,e1,hcap,hc⟩:=ec
  have ex:a.eval x=.slice p xs.length cap:=(List.cons.inj e1).1
  have key:0<xs.length→(∀s z,eqGuard op t s z (a.eval x) (a.eval y)=pure ())∧(binOp .eql t (a.eval x) (a.eval y)).run P w=.ok (.bool false) w∧(binOp .neq t (a.eval x) (a.eval y)).run P w=.ok (.bool true) w:=fun hl=>by
   rcases hc with rfl | ⟨b,off,rfl,_⟩
   ·cases hl
   ·rw[ex,ey]
    have e:=eqIn_nil hu 9999 ⟨b,off,none⟩ xs.length cap w
    refine ⟨fun s z=>?_,?_,?_⟩
    ·simp[eqGuard]
    ·rw[run_eql_sl _ _ _ ⟨_,_,_,rfl⟩ rfl,e];rfl
    ·rw[run_neq_sl _ _ _ ⟨_,_,_,rfl⟩ rfl,e];rfl
  unfold stepNil at h
  split at h
  ·obtain ⟨hl,h⟩:=grd_some h
   obtain ⟨k1,k2,k3⟩:=key (of_decide_eq_true hl)
   exact fin (V:=.bool false) (by simp[execOp,ho,k1,k2]) h W (.refl r) (rfl:RCV ι θ S w (.bool false) _) hK
  ·obtain ⟨hl,h⟩:=grd_some h
   obtain ⟨k1,k2,k3⟩:=key (of_decide_eq_true hl)
   exact fin (V:=.bool true) (by simp[execOp,ho,k1,k3]) h W (.refl r) (rfl:RCV ι θ S w (.bool true) _) hK
  ·cases h
 ·cases hn
theorem eqIn_err {t:TypeId} {ms:Array (String×TypeId)} (hu:P.underlying t=some (.interface ms)) {b:Bool} {X:Value} (h:ErrV b X) (d:Nat) (w:World):(Op.equalIn (d+1) t X .nilIface).run P w=.ok b w:=by
 rcases h with ⟨rfl,rfl⟩ | ⟨rfl,t',p,rfl⟩ <;> simp[Op.equalIn,run_underlying hu]
theorem run_eql_if (t:TypeId) (X:Value) (hX:X=.nilIface∨∃a n,X=.iface a n) (w:World):(binOp .eql t X .nilIface).run P w=((Op.equalIn 10000 t X .nilIface).run P w).andThen fun b w'=>.ok (.bool b) w':=by
 rcases hX with rfl | ⟨a,n,rfl⟩
 ·simp only[binOp]
  simp[Op.equal,Op.maxDepth]
 ·simp only[binOp]
  simp[Op.equal,Op.maxDepth]
theorem run_neq_if (t:TypeId) (X:Value) (hX:X=.nilIface∨∃a n,X=.iface a n) (w:World):(binOp .neq t X .nilIface).run P w=((Op.equalIn 10000 t X .nilIface).run P w).andThen fun b w'=>.ok (.bool !b) w':=by
 rcases hX with rfl | ⟨a,n,rfl⟩
 ·simp only[binOp]
  simp[Op.equal,Op.maxDepth]
 ·simp only[binOp]
  simp[Op.equal,Op.maxDepth]
theorem err_cmp (B:Base P Γ θ w0 M0 S0) (W:RepW θ N w0 M0 S0 ι0 r ι S a w) {op:BinOp} {t u:TypeId} {x y:Operand} {c d:CV} {b:Bool} (ho:o.op=.binOp op t x y u) (hn:errCmp c d=some b) (hb:isErT Γ t=true)
  (ec:RCV ι θ S w c (a.eval x)) (ed:RCV ι θ S w d (a.eval y)) (h:stepErr N r o.dst op b y k=some q) (hK:Out θ N w0 M0 S0 ι0 k q r K'):o.wp P a w K' Q:=by
 have he:Γ.ty t=some .err:=by
  unfold isErT at hb
  split at hb
  ·rename_i he;exact he
  ·cases hb
 obtain ⟨⟨dd,hd1,hd2⟩,_⟩:=B.ty t _ he
 obtain ⟨ms,hu⟩:∃ms,P.underlying t=some (.interface ms):=by
  cases hd2 with
  | err ms=>exact ⟨ms,hd1⟩
  | struct _ _ _ hs=>cases hs
 unfold errCmp at hn
 split at hn
 ·rename_i b' v
  obtain ⟨hv,hn⟩:=bif_some hn
  cases hn
  have ey:a.eval y=.nilIface:=by
   have:a.eval y=v:=ed
   rw[this]
   unfold isNilI at hv
   split at hv
   ·rfl
   ·cases hv
  have ec:ErrV b (a.eval x):=ec
  have key:(∃c,y=.const c)→(∀z c,z=Operand.const c→eqGuard op t x z (a.eval x) (a.eval y)=pure ())∧(binOp .eql t (a.eval x) (a.eval y)).run P w=.ok (.bool b) w∧(binOp .neq t (a.eval x) (a.eval y)).run P w=.ok (.bool !b) w:=fun _=>by
   rw[ey]
   rcases ec with ⟨rfl,e⟩ | ⟨rfl,t',p,e⟩
   ·rw[e]
    have e1:(Op.equalIn 10000 t .nilIface .nilIface).run P w=.ok true w:=eqIn_err hu (.inl ⟨rfl,rfl⟩) 9999 w
    refine ⟨fun z c hz=>?_,?_,?_⟩
    ·subst hz;cases op <;> cases x <;> rfl
    ·rw[run_eql_if _ _ (.inl rfl),e1];rfl
    ·rw[run_neq_if _ _ (.inl rfl),e1];rfl
   ·rw[e]
    have e1:(Op.equalIn 10000 t (.iface t' p) .nilIface).run P w=.ok false w:=eqIn_err hu (.inr ⟨rfl,t',p,rfl⟩) 9999 w
    refine ⟨fun z c hz=>?_,?_,?_⟩
    ·cases op <;> rfl
    ·rw[run_eql_if _ _ (.inr ⟨t',p,rfl⟩),e1];rfl
    ·rw[run_neq_if _ _ (.inr ⟨t',p,rfl⟩),e1];rfl
  unfold stepErr at h
  split at h
  ·rename_i c
   obtain ⟨k1,k2,k3⟩:=key ⟨c,rfl⟩
   have k1:=k1 (.const c) c rfl
   exact fin (V:=.bool b) (by simp[execOp,ho,k1,k2]) h W (.refl r) (rfl:RCV ι θ S w (.bool b) _) hK
  ·rename_i c
   obtain ⟨k1,k2,k3⟩:=key ⟨c,rfl⟩
   have k1:=k1 (.const c) c rfl
   exact fin (V:=.bool !b) (by simp[execOp,ho,k1,k3]) h W (.refl r) (rfl:RCV ι θ S w (.bool !b) _) hK
  ·cases h
 ·cases hn
theorem bin_ok (B:Base P Γ θ w0 M0 S0) (W:RepW θ N w0 M0 S0 ι0 r ι S a w) {op:BinOp} {t u:TypeId} {x y:Operand} (ho:o.op=.binOp op t x y u) (h:stepBin Γ N r o.dst op t x y k=some q)
  (hK:Out θ N w0 M0 S0 ι0 k q r K'):o.wp P a w K' Q:=by
 unfold stepBin at h
 split at h
 ·rename_i c d hc hd
  have ec:RCV ι θ S w c (a.eval x):=eval_ok B W hc
  have ed:RCV ι θ S w d (a.eval y):=eval_ok B W hd
  split at h
  ·rename_i n hn
   obtain ⟨hb,h⟩:=bif_some h
   exact nil_cmp B W ho hn hb ec ed h hK
  split at h
  ·rename_i b hn
   obtain ⟨hb,h⟩:=bif_some h
   exact err_cmp B W ho hn hb ec ed h hK
  obtain ⟨hb,h⟩:=bif_some h
  obtain ⟨c',V,h1,h2,h3,h4⟩:=binCV_ok (t:=t) (P:=P) (fun b1 b2 e1 e2=>by
   subst e1;subst e2
   simp only[boolTy] at hb
   split at hb
   ·rename_i ht
    obtain ⟨⟨dd,hd1,hd2⟩,_⟩:=B.ty t _ ht
    cases hd2 with
    | bool=>exact hd1
    | struct _ _ _ hs=>cases hs
   ·cases hb) ec ed h
  exact fin (V:=V) (by simp[execOp,ho,h3,h4]) h1 W (.refl r) h2 hK
 ·rename_i cs ds hc hd
  obtain ⟨vs,ex,ec⟩:=eval_ok B W hc
  obtain ⟨us,ey,ed⟩:=eval_ok B W hd
  unfold stepEq at h
  split at h
  ·rename_i τ hτ
   obtain ⟨hS,h⟩:=bif_some h
   obtain ⟨hq,hg⟩:=B.eq t τ hτ
   split at h
   ·rename_i b hb
    have hl:=eqC_len hb
    have e1:=(equal_ok B 8 t τ hq 10000 bo%).2 cs ds vs us b ec ed (by rw[←ec.length];exact hl.1) (by rw[←ed.length];exact hl.2) hb
    simp only[aggOf,hS,if_true] at e1
    have hG:=run_eqGuard_agg (P:=P) w op t x y ⟨vs⟩ ⟨us⟩ hg
    split at h
    ·exact fin (V:=.bool b) (by simp[execOp,ho,ex,ey,hG,run_eql_struct,e1]) h W (.refl r) (rfl:RCV ι θ S w (.bool b) _) hK
    ·exact fin (V:=.bool (!b)) (by simp[execOp,ho,ex,ey,hG,run_neq_struct,e1]) h W (.refl r) (rfl:RCV ι θ S w (.bool (!b)) _) hK
    ·cases h
   ·cases h
  ·cases h
 ·cases h
end Go.VM
namespace Go.VM
open Go.RowKit
variable {P:Program} {Γ:Ctx} {θ:Nat→Value} {N:Nat} {w0:World} {M0 S0:Nat→Prop} {ι0:Nat→Value} {r:Env} {ι:Nat→Value} {S:Nat→Prop} {a:Act} {w:World} {R:Type}
 {o:Oper} {K':Act→World→Prop} {Q:Exit→Act→World→Prop} {k:Env→Option R} {q:R}
theorem foldset:∀(vs:List Value) (off j:Nat) (zs:List Value),off+j+vs.length≤zs.length →
  (vs.zipIdx j).foldl (fun (cs:Array Value) (p:Value×Nat)=>cs.setIfInBounds (off+p.2) p.1) ⟨zs⟩=⟨zs.take (off+j)++vs++zs.drop (off+j+vs.length)⟩
 | [],off,j,zs,h=>by simp
 | v :: vs,off,j,zs,h=>by
  simp only[List.length_cons] at h
  rw[List.zipIdx_cons,List.foldl_cons]
  have e:(⟨zs⟩:Array Value).setIfInBounds (off+j) v=⟨zs.set (off+j) v⟩:=by
   apply Array.ext';simp
  simp only[e]
  rw[foldset vs off (j+1) (zs.set (off+j) v) (by simp;omega)]
  congr 1
  have hlt:off+j<zs.length:=by omega
  have t1:(zs.set (off+j) v).take (off+(j+1))=zs.take (off+j)++[v]:=by
   apply List.ext_getElem?
   intro i
   by_cases h1:i<off+j
   ·rw[List.getElem?_take,if_pos bo%,List.getElem?_set_ne bo%,List.getElem?_append_left (by simp;omega),List.getElem?_take,if_pos h1]
   ·by_cases h2:i=off+j
    ·subst h2
     rw[List.getElem?_take,if_pos bo%,List.getElem?_append_right (by simp;omega),List.getElem?_set_self hlt,List.length_take,Nat.min_eq_left bo%,Nat.sub_self]
     rfl
    ·rw[List.getElem?_take,if_neg bo%,List.getElem?_eq_none (by simp;omega)]
  have t2:(zs.set (off+j) v).drop (off+(j+1)+vs.length)=zs.drop (off+(j+1)+vs.length):=by
   apply List.ext_getElem?
   intro i
   rw[List.getElem?_drop,List.getElem?_drop,List.getElem?_set_ne bo%]
  rw[t1,t2]
  simp only[List.append_assoc,List.singleton_append,List.length_cons]
  congr 3
  omega
theorem fill_step {place:Nat→Option (Nat×Nat)} {i off size:Nat} {V:Value} {vs zs:List Value} {rest:List (Nat×Value)} (hp:place i=some (off,size)) (hv:V.cells=⟨vs⟩) (hl:vs.length=size) (hz:off+size≤zs.length) :
  Instr.fill place ⟨zs⟩ ((i,V) :: rest)=Instr.fill place ⟨zs.take off++vs++zs.drop (off+size)⟩ rest:=by
 have h1:¬((V.cells.size≠size||off+V.cells.size > (⟨zs⟩:Array Value).size)=true):=by
  rw[hv];simp;omega
 simp only[Instr.fill,hp,h1,if_false,Bool.false_eq_true]
 congr 1
 rw[hv,←Array.foldl_toList,Array.toList_zipIdx]
 have:=foldset vs off 0 zs bo%
 simp only[Nat.add_zero,hl] at this
 exact this
inductive Parts (ι θ:Nat→Value) (S:Nat→Prop) (w:World):List (Nat×SV)→List (Nat×Value)→Prop
 | nil:Parts ι θ S w [] []
 | cons {i v V l l'}:RSV ι θ S w v V→Parts ι θ S w l l'→Parts ι θ S w ((i,v) :: l) ((i,V) :: l')
theorem parts_ok (B:Base P Γ θ w0 M0 S0) (W:RepW θ N w0 M0 S0 ι0 r ι S a w):∀ {l:List (Nat×Operand)} {vs:List (Nat×SV)},evParts Γ r l=some vs→Parts ι θ S w vs (l.map fun p=>(p.1,a.eval p.2))
 | [],vs,h=>by cases h;exact .nil
 | (i,x) :: l,vs,h=>by
  simp only[evParts] at h
  split at h
  ·rename_i v hv
   split at h
   ·rename_i vs' hvs
    cases h
    exact .cons (eval_ok B W hv) (parts_ok B W hvs)
   ·cases h
  ·cases h
theorem fillC_ok {τ:Ty} {pl:List (Nat×Nat)} (hi:∀n,(ι n).oneCell'=true) (ht:∀n,(θ n).oneCell'=true) (hpl:∀i off σ,τ.field i=some (off,σ)→pl[i]? = some (off,σ.size)) :
  ∀ {vs:List (Nat×SV)} {ps:List (Nat×Value)},Parts ι θ S w vs ps→∀ {cs cs':List CV} {zs:List Value},fillC τ cs vs=some cs'→All2 (RCV ι θ S w) cs zs →
   ∃zs',Instr.fill (pl.toArray[·]?) ⟨zs⟩ ps=some ⟨zs'⟩∧All2 (RCV ι θ S w) cs' zs'
 | _,_,.nil,cs,cs',zs,h,hc=>by cases h;exact ⟨zs,rfl,hc⟩
 | _,_,.cons (i:=i) (v:=v) (V:=V) hv hs,cs,cs',zs,h,hc=>by
  simp only[fillC] at h
  split at h
  ·rename_i off σ v' hf
   obtain ⟨h1,h⟩:=bif_some h
   simp only[nbeq,Bool.and_eq_true,decide_eq_true_eq] at h1
   obtain ⟨⟨h1,h2⟩,h3⟩:=h1
   have h2:=Nat.le_of_ble_eq_true h2
   obtain ⟨us,e1,e2,_⟩:=cells_of hi ht hv h3
   obtain ⟨zs',g1,g2⟩:=fillC_ok hi ht hpl hs h (hc.sets e2 off)
   refine ⟨zs',?_,g2⟩
   have hl:=e2.length
   rw[fill_step (off:=off) (size:=σ.size) (by simpa using hpl i off σ hf) e1 bo% (by rw[←hc.length];exact h2)]
   rw[←g1,show us.length=σ.size by omega]
  ·cases h
theorem build_ok (B:Base P Γ θ w0 M0 S0) (W:RepW θ N w0 M0 S0 ι0 r ι S a w) {t:Nat} {parts:Array (Nat×Operand)} (ho:o.op=.build t parts)
  (h:(match Γ.ty t,evParts Γ r parts.toList with
  | some τ,some vs=>match fillC τ (zeroCells τ) vs with
   | some cs=>bif τ.isS then r.put N o.dst (.agg cs) k else none
   | none=>none
  | _,_=>none)=some q) (hK:Out θ N w0 M0 S0 ι0 k q r K'):o.wp P a w K' Q:=by
 split at h
 ·rename_i τ vs ht hvs
  split at h
  ·rename_i cs hcs
   obtain ⟨hs,h⟩:=bif_some h
   obtain ⟨⟨d,h1,h2⟩,i,z,zs,h3,h4,_,h5,h6,h7⟩:=B.ty t τ ht
   cases h2 with
   | struct _ fs pl _ _ hpl hpl2 =>
    obtain ⟨zs',g1,g2⟩:=fillC_ok W.one B.one hpl2 (parts_ok B W hvs) hcs (zeroCells_ok (S':=S) (w':=w) (ι':=ι) (θ':=θ) h7 (zeroCells_plain τ))
    have hb:P.built t ((parts.map fun x=>(x.1,a.eval x.2)).toList)=some ⟨zs'⟩:=by
     rw[Array.toList_map]
     simp only[Program.built,h3,h1,h5,hpl,h6]
     exact g1
    have:=run_build w t (parts.map fun x=>(x.1,a.eval x.2)) ⟨zs'⟩ hb
    refine fin (V:=.agg ⟨zs'⟩) ?_ h W (.refl r) (show RTV ι θ S w (.agg cs) _ from ⟨zs',rfl,g2⟩) hK
    simp[execOp,ho,this]
   | _=>cases hs
  ·cases h
 ·cases h
theorem RepC.one {θ:Nat→Value} {S:Nat→Prop} {w:World} (ht:∀n,(θ n).oneCell'=true):∀ {t:Ty} {x:t.den} {vs:List Value},RepC θ S w t x vs→∀v,v∈vs→v.oneCell'=true
 | .unit,_,_,c=>by rw[c];intro v hv;cases hv
 | .pair a b,_,_,⟨v1,v2,e,c1,c2⟩=>by
  rw[e];intro v hv
  rcases List.mem_append.1 hv with h | h
  ·exact c1.one ht v h
  ·exact c2.one ht v h
 | .int _,_,_,c=>by rw[c];intro v hv;rw[List.mem_singleton.1 hv];rfl
 | .bool,_,_,c=>by rw[c];intro v hv;rw[List.mem_singleton.1 hv];rfl
 | .str,_,_,c=>by rw[c];intro v hv;rw[List.mem_singleton.1 hv];rfl
 | .opq,_,_,c=>by rw[c];intro v hv;rw[List.mem_singleton.1 hv];exact ht _
 | .adr _,_,_,⟨b,o,ws,e,_⟩=>by rw[e];intro v hv;rw[List.mem_singleton.1 hv];rfl
 | .err,_,_,⟨V,e,h⟩=>by rw[e];intro v hv;rw[List.mem_singleton.1 hv];exact h.one
 | .rd e,xs,_,⟨p,cap,e1,hc,c⟩=>by rw[e1];intro v hv;rw[List.mem_singleton.1 hv];rfl
 | .lst e,xs,_,⟨p,cap,e1,hc,c⟩=>by rw[e1];intro v hv;rw[List.mem_singleton.1 hv];rfl
theorem denTV_ok {ob:Nat→Option Ob} {S':Nat→Prop} (hs:∀b,S b→S' b) (hob:∀n e xs,ob n=some (.row e xs)→RepC θ S' w (.lst e) xs [ι n]) (ht:∀n,(θ n).oneCell'=true) {t:Ty} {v:TV} {V:Value} {x:t.den}
  (h:denTV ob t v=some x) (hv:RTV ι θ S w v V):∃vs,RepC θ S' w t x vs∧V=aggOf t vs∧V.cells=⟨vs⟩:=by
 unfold denTV at h
 split at h
 ·rename_i y hy
  obtain ⟨hb,h⟩:=bif_some h
  cases h
  cases v with
  | one c =>
   have hs':t.isS=false:=by simpa using hb
   obtain ⟨v1,v2,e12,hR,hn⟩:=ofCells_ok hs hob hy (All2.cons hv .nil:All2 (RCV ι θ S w) [c] [V])
   cases hn
   rw[List.append_nil] at e12
   subst e12
   have h1:=hR.one ht V (by simp)
   exact ⟨[V],hR,by simp[aggOf,hs'],cells_one h1⟩
  | agg cs =>
   have hs':t.isS=true:=hb
   obtain ⟨vs,rfl,hc⟩:=hv
   obtain ⟨v1,v2,e12,hR,hn⟩:=ofCells_ok hs hob hy hc
   cases hn
   rw[List.append_nil] at e12
   subst e12
   exact ⟨vs,hR,by simp[aggOf,hs'],rfl⟩
 ·cases h
theorem elems_ok (ht:∀n,(θ n).oneCell'=true) {e:Ty}:∀ {vs:List (Nat×SV)} {ps:List (Nat×Value)},Parts ι θ S w vs ps→∀ {i len:Nat} {xs:List e.den} {zs:List Value},elems e i vs=some xs→zs.length=len*e.size→i+vs.length≤len →
  xs.length=vs.length∧∃zs',Instr.fill (fun i=>some (i*e.size,e.size)) ⟨zs⟩ ps=some ⟨zs'⟩∧zs'.length=zs.length∧(∀k,k<i*e.size→zs'[k]? = zs[k]?) ∧
   ∀m x,xs[m]? = some x→∃ws,RepC θ S w e x ws∧∀j v,ws[j]? = some v→zs'[(i+m)*e.size+j]? = some v
 | _,_,.nil,i,len,xs,zs,h,hz,hl=>by
  cases h
  exact ⟨rfl,zs,rfl,rfl,fun _ _=>rfl,fun m x hx=>by simp at hx⟩
 | _,_,.cons (i:=i') (v:=v) (V:=V) hv hs,i,len,xs,zs,h,hz,hl=>by
  simp only[elems] at h
  split at h
  ·rename_i v'
   obtain ⟨he,hh⟩:=bif_some h
   clear h
   obtain rfl:i=i':=by simpa [nbeq] using he
   split at hh
   ·rename_i x hx
    split at hh
    ·rename_i xs' hxs
     cases hh
     obtain ⟨us,hR,_,hcl⟩:=denTV_ok (fun _ h=>h) none_ob ht hx hv
     have hul:=hR.len
     simp only[List.length_cons] at hl
     have hb:i*e.size+e.size≤zs.length:=by
      rw[hz]
      have:=Nat.mul_le_mul_right e.size (show i+1≤len by omega)
      rw[Nat.add_mul,Nat.one_mul] at this
      exact this
     have hz2:(zs.take (i*e.size)++us++zs.drop (i*e.size+e.size)).length=zs.length:=by simp[hul];omega
     obtain ⟨g0,zs',g1,g2,g3,g4⟩:=elems_ok ht hs (zs:=zs.take (i*e.size)++us++zs.drop (i*e.size+e.size)) hxs (by rw[hz2,hz]) bo%
     have hfirst:∀k,k<i*e.size+e.size→zs'[k]? = (zs.take (i*e.size)++us)[k]?:=fun k hk=>by
      rw[g3 k (by rw[Nat.add_mul,Nat.one_mul];exact hk),List.getElem?_append_left (by simp[hul];omega)]
     refine ⟨by simp[g0],zs',by rw[fill_step rfl hcl hul hb];exact g1,by rw[g2,hz2],fun k hk=>?_,fun m y hy=>?_⟩
     ·rw[hfirst k bo%,List.getElem?_append_left (by simp;omega),List.getElem?_take,if_pos hk]
     ·cases m with
      | zero =>
       obtain rfl:x=y:=by simpa using hy
       refine ⟨us,hR,fun j u hu=>?_⟩
       have hj:j<us.length:=(List.getElem?_eq_some_iff.1 hu).1
       rw[Nat.add_zero,hfirst _ bo%,List.getElem?_append_right (by simp;omega)]
       rw[←hu];congr 1;simp;omega
      | succ m =>
       obtain ⟨ws,c1,c2⟩:=g4 m y (by simpa using hy)
       exact ⟨ws,c1,fun j u hu=>by rw[←c2 j u hu,show i+(m+1)=i+1+m by omega]⟩
    ·cases hh
   ·cases hh
  ·cases h
theorem evParts_len:∀ {l:List (Nat×Operand)} {vs:List (Nat×SV)},evParts Γ r l=some vs→vs.length=l.length
 | [],vs,h=>by cases h;rfl
 | (i,x) :: l,vs,h=>by
  simp only[evParts] at h
  split at h
  ·split at h
   ·rename_i hvs;cases h;simp[evParts_len hvs]
   ·cases h
  ·cases h
theorem sl_name (n:Nat) (V:Value):RSV (upd ι n V) θ S w (.c (.sl n)) V:=(upd_same ι n V).symm
theorem buildSlice_ok (B:Base P Γ θ w0 M0 S0) (W:RepW θ N w0 M0 S0 ι0 r ι S a w) {t len:Nat} {parts:Array (Nat×Operand)} (ho:o.op=.buildSlice t len parts)
  (h:(match lstTy (Γ.ty t),evParts Γ r parts.toList with
  | some e,some vs=>bif okElem e then r.freezeAll (pnames vs) fun r=>match evParts Γ r parts.toList with
   | some vs=>match elems e 0 vs with
    | some xs=>bif Nat.beq vs.length len&&Nat.ble (len*e.size) 16777216 then r.new (nm (o.dst.getD 0) 1) (.row e xs) fun r=>r.put N o.dst (.c (.sl (nm (o.dst.getD 0) 1))) k else none
    | none=>none
   | none=>none else none
  | _,_=>none)=some q) (hK:Out θ N w0 M0 S0 ι0 k q r K'):o.wp P a w K' Q:=by
 split at h
 ·rename_i e vs0 hl _
  obtain ⟨he,h⟩:=bif_some h
  have he:0<e.size:=by simpa [okElem,Nat.blt_eq] using he
  have ht:Γ.ty t=some (.lst e):=by
   revert hl;unfold lstTy;split
   ·rename_i e' h1;intro h2;cases h2;exact h1
   ·intro h;cases h
  obtain ⟨te,hu,hte⟩:=(B.ty _ _ ht).lstT
  obtain ⟨_,ie,z,zs0,i1,i2,_,i3,_⟩:=B.ty _ _ hte
  obtain ⟨r1,S1,h1,hs1,W1,p1⟩:=freezeAll_ok h W
  split at h1
  ·rename_i vs hvs
   split at h1
   ·rename_i xs hxs
    obtain ⟨hb,h1⟩:=bif_some h1
    simp only[nbeq,Bool.and_eq_true,decide_eq_true_eq] at hb
    obtain ⟨hb1,hb2⟩:=hb
    have hb2:=Nat.le_of_ble_eq_true hb2
    have hP:=parts_ok B W1 hvs
    have fin':∀(zs':List Value),zs'.length=len*e.size→xs.length=len→(∀m x,xs[m]? = some x→∃ws,RepC θ S1 w e x ws∧∀j v,ws[j]? = some v→zs'[m*e.size+j]? = some v) →
      (Instr.buildSlice t len (parts.map fun x=>(x.1,a.eval x.2))).run P w=.ok (.slice (some ⟨w.heap.size,0,none⟩) len len) (w.alloc (.cells ⟨zs'⟩ te))→o.wp P a w K' Q:=fun zs' hz hx hcells hrun=>by
     obtain ⟨r2,h2,W2,p2,_⟩:=row_ok W1 h1 (newB_alloc w ⟨zs'⟩ te) he (cap:=len) bo% (by simpa using (Nat.le_of_eq hz.symm)) (fun i x hi=>by
      obtain ⟨ws,c1,c2⟩:=hcells i x hi
      exact ⟨ws,c1,fun j v hv=>by simpa using c2 j v hv⟩)
     refine fin (V:=.slice (some ⟨w.heap.size,0,none⟩) xs.length len) ?_ h2 W2 (p1.trans p2) (sl_name _ _) hK
     rw[hx]
     simp[execOp,ho,hrun]
    by_cases h0:len=0
    ·subst h0
     have hv0:vs=[]:=List.eq_nil_of_length_eq_zero hb1
     subst hv0
     have hx0:xs=[]:=by simpa [elems] using hxs.symm
     have hp0:parts = #[]:=by
      have:=evParts_len hvs
      exact Array.eq_empty_of_size_eq_zero (by simpa using this.symm)
     refine fin' [] (by simp) (by rw[hx0];rfl) (fun m x hx=>by rw[hx0] at hx;simp at hx) ?_
     subst hp0
     simp[Instr.buildSlice,run_underlying hu,sizeOf,typeInfo,i1,Instr.fill,newRow,Array.range_zero']
    ·have hpos:¬len*ie.size=0:=by
      rw[i2];exact Nat.ne_of_gt (Nat.mul_pos bo% he)
     obtain ⟨g0,zs',g1,g2,_,g4⟩:=elems_ok (e:=e) B.one hP (i:=0) (len:=len) (zs:=((Array.range (len*ie.size)).map (z.cells[· % z.cells.size]!)).toList) hxs (by simp[i2]) bo%
     refine fin' zs' (by rw[g2];simp[i2]) (by rw[g0,hb1]) (fun m x hx=>by simpa using g4 m x hx) ?_
     exact run_buildSlice w t te len _ ⟨zs'⟩ ie z hu i1 i3 (by rw[i2];omega) hpos (by rw[Array.toList_map,i2];rw[←g1,i2])
   ·cases h1
  ·cases h1
 ·cases h
theorem RepC.zero (θ:Nat→Value):∀ {t:Ty} {vs:List Value},All2 (RCV ι θ S w) (zeroCells t) vs→t.size=(zeroCells t).length→RepC θ S w t t.dflt vs
 | .unit,_,.nil,_=>rfl
 | .pair a b,vs,h,hz=>by
  obtain ⟨v1,v2,rfl,h1,h2⟩:=All2.split h
  have la:(zeroCells a).length≤a.size:=zlen a
  have lb:(zeroCells b).length≤b.size:=zlen b
  simp only[zeroCells,Ty.size,List.length_append] at hz
  exact ⟨v1,v2,rfl,RepC.zero θ h1 bo%,RepC.zero θ h2 bo%⟩
 | .int _,_,.cons h .nil,_=>congrArg (· :: []) h
 | .bool,_,.cons h .nil,_=>congrArg (· :: []) h
 | .str,_,.cons h .nil,_=>congrArg (· :: []) h
 | .lst e,_,.cons h .nil,_=>⟨none,0,congrArg (· :: []) h,Nat.le_refl _,.inl rfl⟩
 | .opq,_,.nil,hz=>by cases hz
 | .adr _,_,.nil,hz=>by cases hz
 | .rd _,_,.nil,hz=>by cases hz
 | .err,_,.cons h .nil,_=>⟨_,rfl,h⟩
 where zlen:∀t:Ty,(zeroCells t).length≤t.size
 | .unit=>Nat.le_refl _
 | .pair a b=>by simp only[zeroCells,Ty.size,List.length_append];have:=zlen a;have:=zlen b;omega
 | .int _=>Nat.le_refl _
 | .bool=>Nat.le_refl _
 | .str=>Nat.le_refl _
 | .lst _=>Nat.le_refl _
 | .opq=>Nat.zero_le _
 | .adr _=>Nat.zero_le _
 | .rd _=>Nat.zero_le _
 | .err=>Nat.le_refl _
end Go.VM
namespace Go.VM
open Go.RowKit
variable {P:Program} {Γ:Ctx} {θ:Nat→Value} {N:Nat} {w0:World} {M0 S0:Nat→Prop} {ι0:Nat→Value} {r:Env} {ι:Nat→Value} {S:Nat→Prop} {a:Act} {w:World} {R:Type}
 {o:Oper} {K':Act→World→Prop} {Q:Exit→Act→World→Prop} {k:Env→Option R} {q:R}
theorem lstTy_eq {t:Option Ty} {e:Ty} (h:lstTy t=some e):t=some (.lst e):=by
 revert h;unfold lstTy;split
 ·intro h2;cases h2;rfl
 ·intro h;cases h
theorem make_ok (B:Base P Γ θ w0 M0 S0) (W:RepW θ N w0 M0 S0 ι0 r ι S a w) {t:Nat} {len cap:Operand} (ho:o.op=.makeSlice t len cap)
  (h:(match lstTy (Γ.ty t),r.evc Γ len,r.evc Γ cap with
  | some e,some (.int .i64 n),some (.int .i64 c)=>bif okElem e&&Nat.beq (zeroCells e).length e.size then
    grd (decide (0≤n)) (grd (decide (n≤c)) (grd (decide (c≤68719476736))
     (r.new (nm (o.dst.getD 0) 1) (.row e (List.replicate n.toNat e.dflt)) fun r=>r.put N o.dst (.c (.sl (nm (o.dst.getD 0) 1))) k))) else none
  | _,_,_=>none)=some q) (hK:Out θ N w0 M0 S0 ι0 k q r K'):o.wp P a w K' Q:=by
 split at h
 ·rename_i e n c hl hn hc
  obtain ⟨he,h⟩:=bif_some h
  simp only[okElem,nbeq,Bool.and_eq_true,decide_eq_true_eq,Nat.blt_eq] at he
  obtain ⟨he,hz⟩:=he
  obtain ⟨h0,h⟩:=grd_some h
  obtain ⟨h1,h⟩:=grd_some h
  obtain ⟨h2,h⟩:=grd_some h
  have h0:=of_decide_eq_true h0
  have h1:=of_decide_eq_true h1
  have h2:=of_decide_eq_true h2
  obtain ⟨te,hu,hte⟩:=(B.ty _ _ (lstTy_eq hl)).lstT
  obtain ⟨_,ie,z,zs0,i1,i2,ib,i3,i4,i5⟩:=B.ty _ _ hte
  have en:a.eval len=.int .i64 n:=evc_ok B W hn
  have ec:a.eval cap=.int .i64 c:=evc_ok B W hc
  have hb:(ie.bytes:Int)*c≤281474976710656:=by
   have:(ie.bytes:Int)*c≤1024*68719476736:=Int.mul_le_mul bo% h2 bo% bo%
   omega
  have hrun:=run_make (P:=P) w t te ie z hu i1 i3 .i64 .i64 n c h0 h1 hb bo%
  have hzl:zs0.length=e.size:=by rw[←i5.length];exact hz
  have hzc:∀j v,zs0[j]? = some v→∀i,i<n.toNat→(madeCells z.cells (c.toNat*ie.size))[i*e.size+j]? = some v:=fun j v hv i hi=>by
   have hj:j<zs0.length:=(List.getElem?_eq_some_iff.1 hv).1
   have hlt:i*e.size+j<c.toNat*ie.size:=by rw[i2];exact slot_bound (i':=0) bo% bo%
   rw[Array.getElem?_eq_getElem (by rw[size_madeCells];exact hlt)]
   simp only[madeCells,Array.getElem_map,Array.getElem_range,i4]
   have hm:(i*e.size+j) % zs0.length=j:=by rw[hzl,Nat.mul_comm,Nat.mul_add_mod,Nat.mod_eq_of_lt bo%]
   have hs:(⟨zs0⟩:Array Value).size=zs0.length:=rfl
   rw[hs,hm]
   simp[hj]
   have:=List.getElem?_eq_some_iff.1 hv
   exact this.2
  obtain ⟨r',h3,W',p,_⟩:=row_ok W h (newB_alloc w (madeCells z.cells (c.toNat*ie.size)) te) he (cap:=c.toNat) (by simp;omega) (by rw[size_madeCells,i2];exact Nat.le_refl _) (fun i x hi=>by
   rw[List.getElem?_replicate] at hi
   split at hi
   ·rename_i hin
    cases hi
    exact ⟨zs0,RepC.zero θ (zeroCells_ok (S':=S) (w':=w) (ι':=ι) (θ':=θ) i5 (zeroCells_plain e)) hz.symm,fun j v hv=>hzc j v hv i hin⟩
   ·cases hi)
  refine fin (V:=.slice (some ⟨w.heap.size,0,none⟩) (List.replicate n.toNat e.dflt).length c.toNat) ?_ h3 W' p (sl_name _ _) hK
  rw[List.length_replicate]
  simp[execOp,ho,en,ec,hrun]
 ·cases h
inductive OptR (ι θ:Nat→Value) (S:Nat→Prop) (w:World):Option CV→Option Value→Prop
 | none:OptR ι θ S w none none
 | some {c V}:RCV ι θ S w c V→OptR ι θ S w (some c) (some V)
theorem evOpt_ok (B:Base P Γ θ w0 M0 S0) (W:RepW θ N w0 M0 S0 ι0 r ι S a w) {x:Option Operand} {c:Option CV} (h:evOpt Γ r x=some c):OptR ι θ S w c (x.map a.eval):=by
 cases x with
 | none=>cases h;exact .none
 | some x =>
  simp only[evOpt] at h
  split at h
  ·rename_i c' hc;cases h;exact .some (evc_ok B W hc)
  ·cases h
theorem bound_ok {lo hi:Option CV} {LO HI:Option Value} {len cap:Nat} {fl:Bool} {f:Nat→Nat→Option R} (hlo:OptR ι θ S w lo LO) (hhi:OptR ι θ S w hi HI) (hc:len≤cap) (h:bound lo hi len f=some q) :
  ∃l m,f l m=some q∧l≤m∧m≤len∧(Instr.sliceBounds fl len cap LO HI none).run P w=.ok (l,m,cap) w:=by
 cases hhi with
 | none =>
  cases hlo with
  | none=>exact ⟨0,len,h,by omega,Nat.le_refl _,by simp[Instr.sliceBounds]⟩
  | some h1 =>
   rename_i c V
   cases c <;> simp only[bound] at h <;> (try cases h;done)
   rename_i kd i
   obtain ⟨g0,h⟩:=grd_some h
   obtain ⟨g1,h⟩:=grd_some h
   have g0:=of_decide_eq_true g0
   have g1:=of_decide_eq_true g1
   subst h1
   refine ⟨i.toNat,len,h,by omega,Nat.le_refl _,?_⟩
   have:=fun code=>run_sliceBound (P:=P) w kd i len code g0 g1
   simp[Instr.sliceBounds,this]
 | some h2 =>
  rename_i c2 V2
  cases hlo with
  | none =>
   cases c2 <;> simp only[bound] at h <;> (try cases h;done)
   rename_i kd i
   obtain ⟨g0,h⟩:=grd_some h
   obtain ⟨g1,h⟩:=grd_some h
   have g0:=of_decide_eq_true g0
   have g1:=of_decide_eq_true g1
   subst h2
   refine ⟨0,i.toNat,h,by omega,by omega,?_⟩
   have:=fun code=>run_sliceBound (P:=P) w kd i cap code g0 bo%
   simp[Instr.sliceBounds,this]
  | some h1 =>
   rename_i c1 V1
   cases c2 <;> simp only[bound] at h <;> (try cases h;done)
   rename_i kd i
   obtain ⟨g0,h⟩:=grd_some h
   obtain ⟨g1,h⟩:=grd_some h
   have g0:=of_decide_eq_true g0
   have g1:=of_decide_eq_true g1
   cases c1 <;> simp only at h <;> (try cases h;done)
   rename_i kd2 j _ _
   obtain ⟨g2,h⟩:=grd_some h
   obtain ⟨g3,h⟩:=grd_some h
   have g2:=of_decide_eq_true g2
   have g3:=of_decide_eq_true g3
   subst h2
   subst h1
   refine ⟨j.toNat,i.toNat,h,by omega,by omega,?_⟩
   have e1:=fun code=>run_sliceBound (P:=P) w kd i cap code g0 bo%
   have e2:=fun code=>run_sliceBound (P:=P) w kd2 j i.toNat code g2 bo%
   simp[Instr.sliceBounds,e1,e2]
theorem view_cells {e:Ty} {xs:List e.den} {b o l m:Nat} (hm:m≤xs.length) (h:∀i x,xs[i]? = some x→∃ws,RepC θ S w e x ws∧CellsAt w b (o+i*e.size) ws) :
  ∀i x,((xs.take m).drop l)[i]? = some x→∃ws,RepC θ S w e x ws∧CellsAt w b (o+l*e.size+i*e.size) ws:=fun i x hx=>by
 rw[List.getElem?_drop,List.getElem?_take] at hx
 split at hx
 ·obtain ⟨ws,c1,c2⟩:=h _ _ hx
  refine ⟨ws,c1,?_⟩
  rw[Nat.add_assoc,←Nat.add_mul]
  exact c2
 ·cases hx
theorem again_ok (W:RepW θ N w0 M0 S0 ι0 r ι S a w) {n n':Nat} {o0 o':Ob} {V:Value} {w':World} {k:Env→Option R} (h0:r.obj n=some o0) (h:(r.drop n fun r=>r.new n' o' k)=some q)
  (hos:w'.os=w.os) (htp:w'.tape=w.tape) (hou:w'.output=w.output) (hz:w.heap.size≤w'.heap.size) (hB:∀b,b<w.heap.size→blk (ι n)≠some b→w'.heap[b]? = w.heap[b]?)
  (h1:V.oneCell'=true) (hb:∀b,blk V=some b→blk (ι n)=some b∨b=w.heap.size) (hV:ROb (upd ι n' V) θ S w' n' o') :
  ∃r',k r'=some q∧RepW θ N w0 M0 S0 ι0 r' (upd ι n' V) S a w'∧Prot r r':=by
 obtain ⟨r1,g1,W1,p1,_,hn,hsub⟩:=drop_ok h W h0 hos htp hou hz hB
 obtain ⟨r2,g2,W2,p2,_⟩:=new_ok h1 g1 W1 hV (fun b hbV=>by
  rcases hb b hbV with hb | rfl
  ·refine ⟨W.own n _ b h0 hb,fun m p hm hbm=>?_⟩
   by_cases hmn:m=n
   ·subst hmn;rw[hn] at hm;cases hm
   ·rw[hsub m hmn] at hm
    exact hmn (W.inj m n p _ b hm h0 hbm hb)
  ·refine ⟨W.fresh.1,fun m p hm hbm=>?_⟩
   by_cases hmn:m=n
   ·subst hmn;rw[hn] at hm;cases hm
   ·rw[hsub m hmn] at hm
    exact W.fresh.2 m p hm hbm)
 exact ⟨r2,g2,W2,p1.trans p2⟩
theorem blk_zero (p:Option Addr) (n:Nat):blk (.slice p n 0)=none:=by cases p <;> simp[blk]
theorem slice_ok (B:Base P Γ θ w0 M0 S0) (W:RepW θ N w0 M0 S0 ι0 r ι S a w) {t:Nat} {x:Operand} {lo hi:Option Operand} (ho:o.op=.slice t x lo hi none) (h:stepSlice Γ N r o.dst t x lo hi k=some q)
  (hK:Out θ N w0 M0 S0 ι0 k q r K'):o.wp P a w K' Q:=by
 unfold stepSlice at h
 split at h
 ·rename_i c clo chi hc hlo hhi
  have ec:=evc_ok B W hc
  have elo:=evOpt_ok B W hlo
  have ehi:=evOpt_ok B W hhi
  have key:∀e p len cap l m,Γ.ty t=some (.lst e)→a.eval x=.slice p len cap→(Instr.sliceBounds true len cap (lo.map a.eval) (hi.map a.eval) none).run P w=.ok (l,m,cap) w →
    (execOp a.eval o).run P w=.ok (.value (.slice (if cap=l then p else p.map (·.add (l*e.size))) (m-l) (cap-l))) w:=fun e p len cap l m ht ex hb=>by
   obtain ⟨te,hu,he⟩:=(B.ty _ _ ht).lstT
   have hz:=run_sizeOf' (P:=P) (w:=w) (B.ty _ _ he)
   simp[execOp,ho,Instr.sliceAt,Instr.slice,ex,run_underlying hu,hb,hz]
  split at h
  ·rename_i l
   split at h
   ·rename_i ht
    obtain ⟨i,j,h1,h2,h3,h4⟩:=bound_ok (P:=P) (fl:=false) elo ehi (Nat.le_refl _) h
    refine fin (V:=.string (mkB ((l.take j).drop i))) ?_ h1 W (.refl r) rfl hK
    have ex:a.eval x=.string (mkB l):=ec
    have es:(mkB l).size=l.length:=rfl
    have eb:(mkB l).extract i j=mkB ((l.take j).drop i):=by
     apply ByteArray.ext
     simp[ByteArray.data_extract,List.drop_take]
    simp[execOp,ho,Instr.sliceAt,Instr.slice,ex,run_underlying (B.ty _ _ ht).strT,es,h4,eb]
   ·cases h
  ·rename_i e xs
   obtain ⟨ht,h⟩:=bifn_some h
   have ht:=isLst_eq ht
   obtain ⟨p,cap,e1,hcap,h3⟩:=ec
   have e1:=(List.cons.inj e1).1
   obtain ⟨l,m,g1,g2,g3,g4⟩:=bound_ok (P:=P) (fl:=true) elo ehi hcap h
   refine fin (key e p _ cap l m ht e1 g4) g1 W (.refl r) (show RCV ι θ S w (.imm e _) _ from ⟨if cap=l then p else p.map (·.add (l*e.size)),cap-l,?_,?_,?_⟩) hK
   ·simp[List.length_drop,List.length_take,Nat.min_eq_left g3]
   ·simp[List.length_drop,List.length_take,Nat.min_eq_left g3];omega
   ·by_cases hlm:l=m
    ·left
     apply List.eq_nil_of_length_eq_zero
     simp;omega
    ·right
     rcases h3 with h3 | ⟨b,off,rfl,hb,hel⟩
     ·subst h3;simp at g3;omega
     ·refine ⟨b,off+l*e.size,?_,hb,view_cells g3 hel⟩
      rw[if_neg bo%]
      simp[Addr.add_lit]
  ·rename_i n
   split at h
   ·rename_i e xs hn
    obtain ⟨ht,h⟩:=bifn_some h
    have ht:=isLst_eq ht
    obtain ⟨hz,p,cap,e1,hcap,h3⟩:=W.obs n _ hn
    obtain ⟨l,m,g1,g2,g3,g4⟩:=bound_ok (P:=P) (fl:=true) elo ehi hcap h
    have hrun:=key e p _ cap l m ht ((show a.eval x=ι n from ec).trans e1) g4
    have hlen:((xs.take m).drop l).length=m-l:=by simp[Nat.min_eq_left g3]
    obtain ⟨r',g5,W',p'⟩:=again_ok (V:=.slice (if cap=l then p else p.map (·.add (l*e.size))) (m-l) (cap-l)) W hn g1 rfl rfl rfl (Nat.le_refl _) (fun _ _ _=>rfl) rfl (fun b hb=>by
     left
     rw[e1]
     by_cases hcl:cap=l
     ·rw[show cap-l=0 by omega,blk_zero] at hb;cases hb
     ·simp only[if_neg hcl] at hb
      cases p with
      | none=>simp[blk] at hb
      | some ad =>
       simp only[Option.map_some,blk] at hb
       split at hb
       ·cases hb
       ·have:(ad.add (l*e.size)).block=ad.block:=by unfold Addr.add;split <;> rfl
        rw[this] at hb
        simp only[blk]
        rw[if_neg bo%]
        exact hb)
     ⟨hz,_,cap-l,by rw[upd_same,hlen],by rw[hlen];omega,(by
      by_cases hcl:cap=l
      ·left;omega
      ·right
       obtain ⟨b,off,rfl,h4,h5⟩:=h3.resolve_left bo%
       refine ⟨b,off+l*e.size,by rw[if_neg hcl];simp[Addr.add_lit],fun k hk=>?_,view_cells g3 h5⟩
       have:=h4 (l*e.size+k) (by
        have:(cap-l)*e.size=cap*e.size-l*e.size:=Nat.sub_mul _ _ _
        omega)
       rw[←Nat.add_assoc] at this
       exact this)⟩
    exact fin hrun g5 W' p' (sl_name _ _) hK
   ·cases h
  ·cases h
 ·cases h
theorem slice3_ok (B:Base P Γ θ w0 M0 S0) (W:RepW θ N w0 M0 S0 ι0 r ι S a w) {t:Nat} {x hx mx:Operand} (ho:o.op=.slice t x none (some hx) (some mx)) (h:stepSlice3 Γ N r o.dst t x hx mx k=some q)
  (hK:Out θ N w0 M0 S0 ι0 k q r K'):o.wp P a w K' Q:=by
 have key:∀e p len cap (n:Nat) kh km,Γ.ty t=some (.lst e)→a.eval x=.slice p len cap→a.eval hx=.int kh (n:Int)→a.eval mx=.int km (n:Int)→n≤cap →
   (execOp a.eval o).run P w=.ok (.value (.slice p n n)) w:=fun e p len cap n kh km ht ex eh em g1=>by
  obtain ⟨te,hu,he⟩:=(B.ty _ _ ht).lstT
  have hz:=run_sizeOf' (P:=P) (w:=w) (B.ty _ _ he)
  have e1:=fun code=>run_sliceBound (P:=P) w km (n:Int) cap code bo% bo%
  have e2:=fun code=>run_sliceBound (P:=P) w kh (n:Int) n code bo% bo%
  have hb:(Instr.sliceBounds true len cap none (some (.int kh (n:Int))) (some (.int km (n:Int)))).run P w=.ok (0,n,n) w:=by
   simp[Instr.sliceBounds,e1,e2]
  have ha':(p.map fun x=>x.add 0)=p:=by cases p <;> simp[Addr.add]
  simp[execOp,ho,Instr.sliceAt,Instr.slice,ex,eh,em,run_underlying hu,hb,hz,ha']
 unfold stepSlice3 at h
 split at h
 ·rename_i c kh i km j hc hhi hmx
  have ec:=evc_ok B W hc
  have eh:a.eval hx=.int kh i:=evc_ok B W hhi
  have em:a.eval mx=.int km j:=evc_ok B W hmx
  split at h
  ·rename_i e xs
   obtain ⟨ht,h⟩:=bifn_some h
   have ht:=isLst_eq ht
   obtain ⟨g0,h2⟩:=grd_some h
   obtain ⟨g1,h4⟩:=grd_some h2
   have g0:=of_decide_eq_true g0
   have g1:=of_decide_eq_true g1
   rw[g0] at eh
   rw[g1] at em
   obtain ⟨p,cap,e1,hcap,h3⟩:=ec
   have e1:=(List.cons.inj e1).1
   have hrun:=key e p _ cap _ kh km ht e1 eh em hcap
   exact fin hrun h4 W (.refl r) (show RCV ι θ S w (.imm e xs) _ from ⟨p,xs.length,rfl,Nat.le_refl _,h3⟩) hK
  ·rename_i n
   split at h
   ·rename_i e xs hn
    obtain ⟨ht,h⟩:=bifn_some h
    have ht:=isLst_eq ht
    obtain ⟨g0,h2⟩:=grd_some h
    obtain ⟨g1,h6⟩:=grd_some h2
    have g0:=of_decide_eq_true g0
    have g1:=of_decide_eq_true g1
    rw[g0] at eh
    rw[g1] at em
    obtain ⟨hz,p,cap,e1,hcap,h3⟩:=W.obs n _ hn
    have hrun:=key e p _ cap _ kh km ht ((show a.eval x=ι n from ec).trans e1) eh em hcap
    obtain ⟨r',g5,W',p'⟩:=again_ok (V:=.slice p xs.length xs.length) W hn h6 rfl rfl rfl (Nat.le_refl _) (fun _ _ _=>rfl) rfl (fun b hb=>by
      left
      rw[e1]
      cases p with
      | none=>simp[blk] at hb
      | some ad =>
       simp only[blk] at hb ⊢
       split at hb
       ·cases hb
       ·rw[if_neg bo%];exact hb)
     ⟨hz,p,xs.length,by rw[upd_same],Nat.le_refl _,(by
      by_cases hcl:xs.length=0
      ·exact .inl hcl
      ·right
       obtain ⟨b,off,rfl,h4,h5⟩:=h3.resolve_left bo%
       exact ⟨b,off,rfl,fun k hk=>h4 k (Nat.lt_of_lt_of_le hk (Nat.mul_le_mul_right _ hcap)),h5⟩)⟩
    exact fin hrun g5 W' p' (sl_name _ _) hK
   ·cases h
  ·cases h
 ·cases h
end Go.VM
