/- The seat's library contracts, laid by the kit's tools. -/
import Derived.Test.YtpfnljkjjnnliaaGreatDoorR3
import Derived.Laws.BitsLemmas
import Derived.Lib.SplitLaws
import Derived.Lib.ItoaNum
import Derived.Lib.Join
import Derived.Lib.IndexAny
import Derived.Lib.Replace
import Derived.Lib.ItoaLen
import Derived.Lib.ItoaMem
import Derived.Lib.CountLaws
import Derived.Lib.ReplaceLaws
import Derived.Lib.CutLaws
import Derived.Lib.AppendIntMem
import Derived.Lib.LaidTab
import Derived.Lib.Builder
import Derived.SliceStrings
import Derived.DataElems
import Derived.OpenShut
import Derived.Lib.LaidU8
import Derived.LaidLaws
import Derived.Sort.Walk0
import Derived.Shelf.SlicesQ.IndexFunc
import Derived.Shelf.SlicesE.IndexFunc
import Derived.Lib.AtoiAll
import Derived.Lib.TrimByte
import Derived.Lib.ConvBytes
import Derived.Lib.AtoiErrMem
import Derived.Lib.SliceRun
import Derived.Shelf.SlLaysE0
import Derived.Deep.RegionLaw
import Derived.Deep.LoopGhost
import Derived.Shelf.RegionOpenPlain
import Derived.Test.YtpfnljkjjnnliaaGreatDoorR2
import Derived.Shelf.SlicesE.Clone
local macro "bo%" : term => `(by omega)
set_option linter.unusedVariables false
set_option linter.unusedSimpArgs false
namespace Go.VM
open Go.RowKit
variable {R A:Type}
theorem grd_dec (p:Prop) [Decidable p] (x:Option R):grd (decide p) x=if p then x else none:=by
 unfold grd;by_cases h:p <;> simp[h]
theorem bif_dec {α:Type} (p:Prop) [Decidable p] (x y:α):(bif decide p then x else y)=if p then x else y:=by
 by_cases h:p <;> simp[h]
theorem bif_ndec {α:Type} (p:Prop) [Decidable p] (x y:α):(bif !decide p then x else y)=if p then y else x:=by
 by_cases h:p <;> simp[h]
theorem grd_ndec (p:Prop) [Decidable p] (x:Option R):grd (!decide p) x=if p then none else x:=by
 unfold grd;by_cases h:p <;> simp[h]
theorem bif_t {α:Type} (x y:α):(bif true then x else y)=x:=rfl
theorem bif_f {α:Type} (x y:α):(bif false then x else y)=y:=rfl
theorem bif_ite {α:Type} (b:Bool) (x y:α):(bif b then x else y)=if b=true then x else y:=by cases b <;> rfl
theorem w64 {x:Int} (h1:-9223372036854775808≤x) (h2:x≤9223372036854775807):IntKind.i64.wrap x=x:=by
 rw[IntKind.wrap_i64];omega
theorem w8 {x:Int} (h1:0≤x) (h2:x≤255):IntKind.u8.wrap x=x:=by
 rw[IntKind.wrap_u8];omega
theorem loopR_ind {S R:Type} {F:(S→Option R)→S→Option R} (μ:S→Nat) (P:S→R→Prop)
  (h:∀(s:S) (r:R) (self:S→Option R),P s r→(∀s',μ s'<μ s→P s' r→self s'=some r)→F self s=some r) :
  ∀(n:Nat) (s:S) (r:R),P s r→μ s<n→loopR F n s=some r
 | 0,s,r,_,hm=>absurd hm (Nat.not_lt_zero _)
 | n+1,s,r,hp,hm=>h s r (loopR F n) hp fun s' h1 h2=>loopR_ind μ P h n s' r h2 bo%
theorem loopR_list {S R X:Type} {F:(S→Option R)→S→Option R} (P:List X→S→R→Prop)
  (h0:∀(s:S) (r:R) (self:S→Option R),P [] s r→F self s=some r)
  (h1:∀(x:X) (l:List X) (s:S) (r:R) (self:S→Option R),P (x :: l) s r→(∀s',P l s' r→self s'=some r)→F self s=some r) :
  ∀(l:List X) (n:Nat) (s:S) (r:R),P l s r→l.length<n→loopR F n s=some r
 | [],n+1,s,r,hp,_=>h0 s r _ hp
 | x :: l,n+1,s,r,hp,hn=>h1 x l s r _ hp fun s' h=>loopR_list P h0 h1 l n s' r h (by simp at hn;omega)
 | [],0,_,_,_,hn=>absurd hn (Nat.not_lt_zero _)
 | _ :: _,0,_,_,_,hn=>absurd hn (Nat.not_lt_zero _)
theorem bt_get {s:Bs} {i:Nat} {c:UInt8} (h:s[i]? = some c):bt s (i:Int)=(c.toNat:Int):=by
 simp[bt,List.getD,h]
theorem at_cons {α:Type} {s:List α} {i:Nat} {c:α} {l:List α} (h:s.drop i=c :: l):i<s.length∧s[i]? = some c∧s.drop (i+1)=l:=by
 have h1:s[i]? = some c:=by rw[←List.head?_drop,h];rfl
 refine ⟨(List.getElem?_eq_some_iff.1 h1).1,h1,?_⟩
 rw[←List.drop_drop,h];rfl
theorem at_nil {α:Type} {s:List α} {i:Nat} (hi:i≤s.length) (h:s.drop i=[]):i=s.length:=by
 rw[List.drop_eq_nil_iff] at h;omega
theorem byte_is (c:UInt8) (k:Nat) (hk:k<256):((c.toNat:Int)=(k:Int))↔c=UInt8.ofNat k:=by
 constructor
 ·intro h
  have h:c.toNat=k:=by omega
  rw[←h];simp
 ·intro h;subst h;simp;omega
theorem byte_le (c:UInt8):0≤(c.toNat:Int)∧(c.toNat:Int)≤255:=by have:=c.toNat_lt;omega
theorem getD_get {α:Type} {l:List α} {i:Nat} {a:α} (d:α) (h:l[i]? = some a):l.getD i d=a:=by simp[List.getD,h]
theorem toNat_nat (i:Nat):((i:Int)).toNat=i:=rfl
theorem beq_dec {α:Type} [BEq α] [LawfulBEq α] [DecidableEq α] (a b:α):(a==b)=decide (a=b):=by
 by_cases h:a=b <;> simp[h]
theorem loopS {S R X:Type} {F:(S→Option R)→S→Option R} (s:List X) (P:List X→Nat→S→R→Prop)
  (h0:∀st r self,P [] s.length st r→F self st=some r)
  (h1:∀x l i st r self,s.drop i=x :: l→i<s.length→s[i]? = some x→P (x :: l) i st r→(∀st',P l (i+1) st' r→self st'=some r)→F self st=some r)
  {n:Nat} {st:S} {r:R} (hp:P s 0 st r) (hn:s.length<n):loopR F n st=some r:=by
 refine loopR_list (X:=X) (fun l st r=>∃i,s.drop i=l∧i≤s.length∧P l i st r) ?_ ?_ s n st r ⟨0,rfl,Nat.zero_le _,hp⟩ hn
 ·rintro st r self ⟨i,hd,hi,h⟩
  have:=at_nil hi hd
  subst this
  exact h0 st r self h
 ·rintro x l st r self ⟨i,hd,hi,h⟩ ih
  obtain ⟨a,b,c⟩:=at_cons hd
  exact h1 x l i st r self hd a b h fun st' h'=>ih st' ⟨i+1,c,a,h'⟩
end Go.VM
namespace Go.VM
def cutM (c:UInt8):Bs→List Bs
 | []=>[[]]
 | x :: l=>if x=c then [] :: cutM c l else (x :: (cutM c l).headD []) :: (cutM c l).tail
def cut1 (c:UInt8):Bs→Bs×Option Bs
 | []=>([],none)
 | x :: l=>if x=c then ([],some l) else (x :: (cut1 c l).1,(cut1 c l).2)
def hexU (n:Nat):UInt8:=if n<10 then UInt8.ofNat (48+n) else UInt8.ofNat (55+n)
def encB (any:Bs) (c:UInt8):Bs:=if c.toNat<32∨126<c.toNat∨any.contains c=true then [37,hexU (c.toNat / 16),hexU (c.toNat % 16)] else [c]
def encM (any l:Bs):Bs:=l.flatMap (encB any)
def setsL:List Bs:=[[],[32,34,35,60,62,63,123,125,96],[32,34,35,60,62,39],[32,34,60,62,96],[32,34,35,60,62,63,123,125,96,47,58,59,61,64,91,92,93,94,124],[32]]
def hexM (c:UInt8):Int :=
 if 48≤c.toNat∧c.toNat≤57 then (c.toNat:Int)-48 else if 97≤c.toNat∧c.toNat≤102 then (c.toNat:Int)-87 else if 65≤c.toNat∧c.toNat≤70 then (c.toNat:Int)-55 else -1
def hexB (a b:UInt8):UInt8:=UInt8.ofNat (16*(hexM a).toNat+(hexM b).toNat)
def decM:Bs→Bs
 | []=>[]
 | c :: l=>match c,l with
  | 37,a :: b :: r=>if 0≤hexM a∧0≤hexM b then hexB a b :: decM r else 37 :: decM (a :: b :: r)
  | c,l=>c :: decM l
def pathM:List Bs→Bs
 | []=>[]
 | s :: l=>47 :: s++pathM l
def fits:Nat:=1073741824
abbrev THost:=Int×Bs×Int×Unit
abbrev TUrl:=Bs×Bs×Bs×THost×Int×List Bs×Bs×Bool×Bs×Bool×Bs×Unit
abbrev TCookie:=Bs×Bs×Bs×Bool×Bs×Int×Bool×Int×Int×Unit
abbrev TEntry:=Int×TUrl×Int×Int×Bs×Unit
def dCookie:TCookie:=([],[],[],false,[],0,false,0,0,())
abbrev O1 (A:Type):=Option (A×Unit)
def x_strings_Split:Bs×Bs×Unit→O1 (List Bs)
 | (s,[c],_)=>if s.length≤fits then some (cutM c s,()) else none
 | _=>none
def x_strings_IndexByte:Bs×Int×Unit→O1 Int
 | (s,c,_)=>if 0≤c∧c<256 then some (Lib.indexByte s c.toNat.toUInt8,()) else none
def x_strconv_Itoa:Int×Unit→O1 Bs
 | (n,_)=>if -9223372036854775808≤n∧n≤9223372036854775807 then some (Lib.itoa n,()) else none
def x_strings_Join:List Bs×Bs×Unit→O1 Bs
 | (xs,s,_)=>if xs.length≤fits∧(Lib.join xs s).length≤fits then some (Lib.join xs s,()) else none
def x_strings_ReplaceAll:Bs×Bs×Bs×Unit→O1 Bs
 | (s,a,b,_)=>if s.length≤fits∧1≤a.length∧b.length≤a.length then some (Lib.replaceAll s a b,()) else none
def x_strings_IndexAny:Bs×Bs×Unit→O1 Int
 | (s,cs,_)=>if s.length≤fits∧2≤cs.length∧cs.length≤8∧cs.all (fun b=>b.toNat<128)=true then some (Lib.indexAny s cs,()) else none
def x_strings_Cut:Bs×Bs×Unit→Option (Bs×Bs×Bool×Unit)
 | (s,[c],_)=>if s.length≤fits then some ((cut1 c s).1,((cut1 c s).2.getD []),(cut1 c s).2.isSome,()) else none
 | _=>none
def x_impl_clone_string:List Bs×Unit→O1 (List Bs)
 | (xs,_)=>if xs.length≤fits then some (xs,()) else none
def x_impl_encode:Int×Bs×Unit→O1 Bs
 | (n,s,_)=>if s.length≤fits then some (encM (if 1≤n∧n≤5 then setsL.getD n.toNat [] else []) s,()) else none
def x_impl_Decode:Bs×Unit→O1 Bs
 | (s,_)=>if s.length≤600 then some (decM s,()) else some ([],())
def x_impl_PathPut:List Bs×Unit→O1 Bs
 | (xs,_)=>if (pathM xs).length≤fits then some (pathM xs,()) else none
end Go.VM
namespace Go.VM
open Go
theorem byte_lt (c:UInt8):c.toNat<256:=c.toNat_lt
theorem cutM_ne (c:UInt8) (l:Bs):cutM c l=(cutM c l).headD [] :: (cutM c l).tail:=by
 cases l with
 | nil=>rfl
 | cons x l=>unfold cutM;split <;> rfl
theorem cutM_len (c:UInt8):∀l:Bs,(cutM c l).length≤l.length+1
 | []=>by simp[cutM]
 | x :: l=>by
  have ih:=cutM_len c l
  rw[cutM_ne c l] at ih
  unfold cutM
  split
  ·rw[cutM_ne c l];simp at *;omega
  ·simp at *;omega
theorem cutM_none (c:UInt8):∀l:Bs,c ∉ l→cutM c l=[l]
 | [],_=>rfl
 | x :: l,h=>by
  have h1:x≠c:=fun e=>h (by simp[e])
  have h2:c ∉ l:=fun e=>h (by simp[e])
  unfold cutM
  rw[if_neg h1,cutM_none c l h2]
  rfl
theorem cutM_app (c:UInt8):∀a b:Bs,c ∉ a→cutM c (a++c :: b)=a :: cutM c b
 | [],b,_=>by simp[cutM]
 | x :: a,b,h=>by
  have h1:x≠c:=fun e=>h (by simp[e])
  have h2:c ∉ a:=fun e=>h (by simp[e])
  have ih:=cutM_app c a b h2
  show cutM c (x :: (a++c :: b))=_
  rw[cutM,if_neg h1,ih]
  rfl
theorem cutM_all (c:UInt8) (f:UInt8→Bool):∀l:Bs,((cutM c l).all fun p=>p.all f)=l.all fun x=>x==c||f x
 | []=>rfl
 | x :: l=>by
  have ih:=cutM_all c f l
  rw[cutM_ne c l] at ih
  simp only[List.all_cons] at ih
  unfold cutM
  by_cases h:x=c
  ·subst h
   rw[if_pos rfl,cutM_ne x l]
   simp[←ih]
  ·rw[if_neg h]
   rw[List.all_cons,List.all_cons,List.all_cons,←ih]
   have:(x==c)=false:=by simpa using h
   rw[this,Bool.false_or,Bool.and_assoc]
theorem first_of (c:UInt8):∀l:Bs,c∈l→∃a b,l=a++c :: b∧c ∉ a
 | [],h=>by cases h
 | x :: l,h=>by
  by_cases e:x=c
  ·exact ⟨[],l,by simp[e],by simp⟩
  ·obtain ⟨a,b,rfl,ha⟩:=first_of c l (by
    rcases List.mem_cons.1 h with r | r
    ·exact absurd r.symm e
    ·exact r)
   refine ⟨x :: a,b,rfl,fun r=>?_⟩
   rcases List.mem_cons.1 r with r | r
   ·exact e r.symm
   ·exact ha r
def labelsM (l:Bs):List Bs:=if 1<(cutM 46 l).length∧(cutM 46 l).getLast? = some [] then (cutM 46 l).dropLast else cutM 46 l
def nb (c:UInt8):Bool:=(decide (97≤c.toNat)&&decide (c.toNat≤122))||(decide (48≤c.toNat)&&decide (c.toNat≤57))||c==45||c==95
def isNameM (l:Bs):Bool:=(l.all fun c=>c==46||nb c)&&decide (1≤l.length)&&decide (l.length≤60) && !(labelsM l).contains []
def digB (c:UInt8):Bool:=decide (48≤c.toNat)&&decide (c.toNat≤57)
def digM (b:Int):Int→Bs→Option Int
 | n,[]=>some n
 | n,c :: l=>if hexM c<0∨b≤hexM c∨4294967295<n then none else digM b (n*b+hexM c) l
def isHex (l:Bs):Bool:=match l with
 | 48 :: c :: _=>c==120||c==88
 | _=>false
def lnumM (l:Bs):Option Int :=
 if l=[] then none else if isHex l=true then digM 16 0 (l.drop 2) else if l.head? = some 48∧1<l.length then digM 8 0 (l.drop 1) else digM 10 0 l
def endsM (l:Bs):Bool :=
 let last:=(labelsM l).getLast?.getD []
 if last=[] then false else if isHex last=true then (lnumM last).isSome else last.all digB
theorem hexM_range (c:UInt8):-1≤hexM c∧hexM c≤15:=by
 unfold hexM
 have:=byte_lt c
 repeat' split
 all_goals omega
theorem cut_len_pos (c:UInt8) (l:Bs):1≤(cutM c l).length:=by rw[cutM_ne];simp
theorem labels_ne (l:Bs):labelsM l≠[]:=by
 unfold labelsM
 split
 ·rename_i h
  intro e
  have:=congrArg List.length e
  simp at this
  omega
 ·rw[cutM_ne];simp
theorem labels_len (l:Bs):(labelsM l).length≤l.length+1:=by
 have:=cutM_len 46 l
 unfold labelsM
 split
 ·simp;omega
 ·exact this
theorem labels_mem (l p:Bs) (h:p∈labelsM l):p∈cutM 46 l:=by
 unfold labelsM at h
 split at h
 ·exact List.mem_of_mem_take (by rw[←List.dropLast_eq_take];exact h)
 ·exact h
theorem digB_int (c:UInt8):digB c=(decide (48≤(c.toNat:Int))&&decide ((c.toNat:Int)≤57)):=by
 unfold digB
 congr 1
 ·exact decide_eq_decide.2 bo%
 ·exact decide_eq_decide.2 bo%
theorem cutM_sub (c:UInt8):∀(l p:Bs),p∈cutM c l→p.length≤l.length
 | [],p,h=>by simp[cutM] at h;subst h;simp
 | x :: l,p,h=>by
  have hn:=cutM_ne c l
  unfold cutM at h
  split at h
  ·rcases List.mem_cons.1 h with rfl | h
   ·simp
   ·have:=cutM_sub c l p h
    simp;omega
  ·rcases List.mem_cons.1 h with rfl | h
   ·have:=cutM_sub c l ((cutM c l).headD []) (by rw[hn];simp)
    simpa using this
   ·have:=cutM_sub c l p (by rw[hn];simp[h])
    simp;omega
theorem empties (ps:List Bs) (h1:1≤ps.length):(ps.zipIdx.any fun p=>p.1==[]&&(decide (p.2+1<ps.length)||p.2==0))=(if 1<ps.length∧ps.getLast? = some [] then ps.dropLast else ps).contains []:=by
 rw[Bool.eq_iff_iff,List.any_eq_true,List.contains_iff_mem]
 constructor
 ·rintro ⟨⟨q,i⟩,hm,hc⟩
  rw[List.mk_mem_zipIdx_iff_getElem?] at hm
  simp only[Bool.and_eq_true,beq_iff_eq,Bool.or_eq_true,decide_eq_true_eq] at hc
  obtain ⟨rfl,hc⟩:=hc
  split
  ·rename_i h
   have hi:i<ps.dropLast.length:=by simp;omega
   refine List.mem_of_getElem? (i:=i) ?_
   rw[List.getElem?_dropLast,if_pos bo%]
   exact hm
  ·exact List.mem_of_getElem? hm
 ·intro hm
  by_cases h:1<ps.length
  ·have hd:[]∈ps.dropLast:=by
    split at hm
    ·exact hm
    ·rename_i hn
     have hne:ps≠[]:=by intro e;subst e;simp at h
     rw[←List.dropLast_concat_getLast hne] at hm
     rcases List.mem_append.1 hm with r | r
     ·exact r
     ·exfalso
      apply hn
      refine ⟨h,?_⟩
      rw[List.getLast?_eq_some_getLast hne]
      rw[←List.mem_singleton.1 r]
   obtain ⟨i,hi⟩:=List.getElem?_of_mem hd
   have hil:=(List.getElem?_eq_some_iff.1 hi).1
   rw[List.getElem?_dropLast] at hi
   simp at hil
   rw[if_pos bo%] at hi
   exact ⟨([],i),(List.mk_mem_zipIdx_iff_getElem?).2 hi,by simp;omega⟩
  ·rw[if_neg (fun z=>h z.1)] at hm
   obtain ⟨i,hi⟩:=List.getElem?_of_mem hm
   have hil:=(List.getElem?_eq_some_iff.1 hi).1
   exact ⟨([],i),(List.mk_mem_zipIdx_iff_getElem?).2 hi,by simp;omega⟩
theorem names_eq (l:Bs):((((cutM 46 l).all fun p=>p.all nb) && !((cutM 46 l).zipIdx.any fun p=>p.1==[]&&(decide (p.2+1<(cutM 46 l).length)||p.2==0)))&&(decide (1≤l.length)&&decide (l.length≤60)))=isNameM l:=by
 rw[cutM_all,empties _ (cut_len_pos _ _)]
 unfold isNameM labelsM
 have e:∀X Y Z V:Bool,((X && !Y)&&(Z&&V))=(X&&Z&&V && !Y):=by decide
 exact e _ _ _ _
theorem digM_range (b:Int) (hb:2≤b∧b≤16):∀(l:Bs) (n r:Int),0≤n→n≤68719476735→digM b n l=some r→0≤r∧r≤68719476735
 | [],n,r,h0,h1,h=>by obtain rfl:=Option.some.inj h;exact ⟨h0,h1⟩
 | c :: l,n,r,h0,h1,h=>by
  unfold digM at h
  have hr:=hexM_range c
  split at h
  ·cases h
  ·rename_i hc
   have hn:n≤4294967295:=by omega
   have hm:0≤n*b∧n*b≤4294967295*16:=⟨Int.mul_nonneg h0 bo%,Int.mul_le_mul hn hb.2 bo% bo%⟩
   exact digM_range b hb l _ r bo% bo% h
theorem isHex_prefix (l:Bs):isHex l=(([48,120]:Bs).isPrefixOf l||([48,88]:Bs).isPrefixOf l):=by
 match l with
 | []=>rfl
 | [c]=>simp[isHex,List.isPrefixOf]
 | c :: d :: r =>
  by_cases h:c=48
  ·subst h;simp[isHex,List.isPrefixOf,Bool.beq_comm]
  ·have:(48==c)=false:=by simpa using Ne.symm h
   simp[List.isPrefixOf,this,isHex]
   split <;> simp_all
theorem lnumM_range (l:Bs) (r:Int) (h:lnumM l=some r):0≤r∧r≤68719476735:=by
 unfold lnumM at h
 split at h
 ·cases h
 ·split at h
  ·exact digM_range 16 bo% _ 0 r bo% bo% h
  ·split at h
   ·exact digM_range 8 bo% _ 0 r bo% bo% h
   ·exact digM_range 10 bo% _ 0 r bo% bo% h
theorem lnum_isSome (l:Bs):decide (((lnumM l).getD (-1))≥0)=(lnumM l).isSome:=by
 cases h:lnumM l with
 | none=>rfl
 | some r=>have:=lnumM_range l r h;simp;omega
theorem digB_not_hex (l:Bs) (h:isHex l=true):l.all digB=false:=by
 unfold isHex at h
 split at h
 ·rename_i c r
  have:digB c=false:=by
   rcases (by simpa using h:c=120∨c=88) with rfl | rfl <;> decide
  simp[this]
 ·cases h
theorem ends_eq (p:Bs):(p.all digB||(isHex p&&(lnumM p).isSome))=(if isHex p=true then (lnumM p).isSome else p.all digB):=by
 cases h:isHex p with
 | true=>rw[digB_not_hex p h];simp
 | false=>simp
theorem dec_len (u:Nat) (hu:u≤9223372036854775807):(Lib.decDigits u).length≤21:=by
 have:=Lib.itoa_length_le (u:Int) bo% bo%
 rwa [Lib.itoa_nonneg] at this
def fourT (u:Nat):Bs:=Lib.decDigits (u / 16777216)++46 :: (Lib.decDigits (u / 65536 % 256)++46 :: (Lib.decDigits (u / 256 % 256)++46 :: Lib.decDigits (u % 256)))
theorem fourT_len (u:Nat) (hu:u<4294967296):(fourT u).length≤87:=by
 have:=dec_len (u / 16777216) bo%
 have:=dec_len (u / 65536 % 256) bo%
 have:=dec_len (u / 256 % 256) bo%
 have:=dec_len (u % 256) bo%
 simp[fourT]
 omega
def pw (i:Nat):Int:=if i=0 then 4294967296 else if i=1 then 16777216 else if i=2 then 65536 else if i=3 then 256 else 1
def fourGo:Nat→Int→List Bs→Option Int
 | _,v,[]=>some v
 | i,v,[p]=>match lnumM p with | some n=>if n<pw i then some (v*pw i+n) else none | none=>none
 | i,v,p :: q :: r=>match lnumM p with | some n=>if n≤255 then fourGo (i+1) (v*256+n) (q :: r) else none | none=>none
def fourGetM (l:Bs):Option Int:=if 200<l.length∨4<(labelsM l).length then none else fourGo 0 0 (labelsM l)
theorem pw_range (i:Nat):1≤pw i∧pw i≤4294967296:=by unfold pw;repeat' split <;> omega
def up (i:Nat):Int:=if i=0 then 1 else if i=1 then 256 else if i=2 then 65536 else if i=3 then 16777216 else 4294967296
theorem fourGo_range:∀(r:List Bs) (i:Nat) (v x:Int),i+r.length≤4→0≤v→v<up i→(r=[]→i=4)→fourGo i v r=some x→0≤x∧x≤4294967295
 | [],i,v,x,_,h0,h1,h2,h=>by
  obtain rfl:=h2 rfl
  simp[fourGo] at h
  simp[up] at h1
  omega
 | [p],i,v,x,hi,h0,h1,_,h=>by
  simp only[fourGo] at h
  cases hn:lnumM p with
  | none=>rw[hn] at h;simp at h
  | some n =>
   have:=lnumM_range p n hn
   rw[hn] at h
   simp only[Option.ite_none_right_eq_some,Option.some.injEq] at h
   have h4:i≤3:=by simp at hi;omega
   obtain rfl | rfl | rfl | rfl:i=0∨i=1∨i=2∨i=3:=by omega
   all_goals (simp[pw,up] at h h1;omega)
 | p :: q :: r,i,v,x,hi,h0,h1,_,h=>by
  simp only[fourGo] at h
  cases hn:lnumM p with
  | none=>rw[hn] at h;simp at h
  | some n =>
   have:=lnumM_range p n hn
   rw[hn] at h
   simp only[Option.ite_none_right_eq_some] at h
   refine fourGo_range (q :: r) (i+1) (v*256+n) x (by simp at hi ⊢;omega) bo% ?_ (by simp) h.2
   have h4:i≤2:=by simp at hi;omega
   obtain rfl | rfl | rfl:i=0∨i=1∨i=2:=by omega
   all_goals (simp[up] at h1 ⊢;omega)
theorem fourGet_range (l:Bs) (x:Int) (h:fourGetM l=some x):0≤x∧x≤4294967295:=by
 unfold fourGetM at h
 split at h
 ·cases h
 ·refine fourGo_range (labelsM l) 0 0 x bo% bo% (by simp[up]) (fun e=>absurd e (labels_ne l)) h
def hostOkM (kind:Int) (name:Bs) (addr:Int):Bool :=
 if kind=0 then name==[]&&addr==0 else if kind=1 then isNameM name && !endsM name&&addr==0 else if kind=2 then name==[]&&decide (0≤addr∧addr≤4294967295) else false
def hostPutM (kind:Int) (name:Bs) (addr:Int):Bs:=if hostOkM kind name addr=true then (if kind=2 then fourT addr.toNat else name) else []
theorem hostOk_two {name:Bs} {addr:Int} (h:hostOkM 2 name addr=true):name=[]∧0≤addr∧addr≤4294967295:=by
 unfold hostOkM at h
 rw[if_neg bo%,if_neg bo%,if_pos rfl] at h
 simp at h
 exact h
def isFourM (l:Bs):Bool:=match fourGetM l with | some v=>fourT v.toNat==l | none=>false
theorem hostPut_four (v:Int) (h:0≤v∧v≤4294967295):hostPutM 2 [] v=fourT v.toNat:=by
 unfold hostPutM
 rw[if_pos (by simp[hostOkM];omega),if_pos rfl]
def setP:Bs:=[32,34,35,60,62,63,96,123,125]
def setQ:Bs:=[32,34,35,60,62,39]
def setF:Bs:=[32,34,60,62,96]
def setO:Bs:=[32]
def setU:Bs:=[32,34,35,60,62,63,96,123,125,47,58,59,61,64,91,92,93,94,124]
def lowB (c:UInt8):UInt8:=if 65≤c.toNat∧c.toNat≤90 then c+32 else c
def lowM (l:Bs):Bs:=l.map lowB
theorem lowB_toNat (c:UInt8):(lowB c).toNat=if 65≤c.toNat∧c.toNat≤90 then c.toNat+32 else c.toNat:=by
 unfold lowB
 split
 ·have:=c.toNat_lt
  rw[UInt8.toNat_add]
  simp;omega
 ·rfl
theorem lowM_len (l:Bs):(lowM l).length=l.length:=by simp[lowM]
def letB (c:UInt8):Bool:=(decide (97≤c.toNat)&&decide (c.toNat≤122))||(decide (65≤c.toNat)&&decide (c.toNat≤90))
def schB (c:UInt8):Bool:=letB c||digB c||c==43||c==45||c==46
def schM (l:Bs):Option (Bs×Bs) :=
 match cut1 58 l with
 | (c :: s,some r)=>if letB c=true∧s.all schB=true then some (lowM (c :: s),r) else none
 | _=>none
def trimM (l:Bs):Bs:=((l.dropWhile fun c=>decide (c.toNat≤32)).reverse.dropWhile fun c=>decide (c.toNat≤32)).reverse
def stripM (l:Bs):Bs:=(trimM l).filter fun c=>!(c==9||c==10||c==13)
def atM (any:Bs) (l:Bs):Bs:=l.takeWhile fun c=>!any.contains c
def fromM (any:Bs) (l:Bs):Bs:=l.dropWhile fun c=>!any.contains c
def httpB:Bs:=[104,116,116,112]
def httpsB:Bs:=[104,116,116,112,115]
def portS (s:Bs):Int:=if s=httpB then 80 else if s=httpsB then 443 else -1
def dotsM (s:Bs):Int :=
 let x:=lowM s
 if x=[46]∨x=[37,50,101] then 1 else if x=[46,46]∨x=[46,37,50,101]∨x=[37,50,101,46]∨x=[37,50,101,37,50,101] then 2 else 0
def slB (c:UInt8):UInt8:=if c=92 then 47 else c
def piecesM (l:Bs):List Bs:=cutM 47 (l.map slB)
def walkM:List Bs→List Bs→List Bs
 | out,[]=>out
 | out,p :: l =>
  let out1:=if dotsM p=2 then out.dropLast else out
  walkM (if dotsM p=0 then out1++[encM setP p] else if l=[] then out1++[[]] else out1) l
def isSl (c:UInt8):Bool:=c==47||c==92
def pathGetM (t:Bs):List Bs :=
 if 200<t.length then [] else walkM [] (piecesM (match t with | c :: l=>if isSl c=true then l else t | []=>[]))
def portM (own:Int) (s:Bs):Option Int:=if s=[] then some (-1) else (digM 10 0 s).bind fun n=>if 65535<n then none else if n=own then some (-1) else some n
def portGo (own:Int) (t:Bs):Int→Bs→Option Int
 | v,[]=>if 65535<v then none else if t=[]∨v=own then some (-1) else some v
 | v,c :: l=>if digB c=true then portGo own t (min 65536 (10*v+((c.toNat:Int)-48))) l else none
theorem portGo_big (own:Int) (t:Bs):∀l:Bs,portGo own t 65536 l=none
 | []=>by simp[portGo]
 | c :: l=>by
  simp only[portGo]
  split
  ·rename_i h
   have hd:48≤c.toNat∧c.toNat≤57:=by simpa [digB] using h
   have:min (65536:Int) (10*65536+((c.toNat:Int)-48))=65536:=by omega
   rw[this];exact portGo_big own t l
  ·rfl
theorem hexM_dig {c:UInt8}:(digB c=true→hexM c=(c.toNat:Int)-48∧0≤hexM c∧hexM c≤9)∧(digB c=false→hexM c<0∨10≤hexM c):=by
 constructor
 ·intro h
  have hd:48≤c.toNat∧c.toNat≤57:=by simpa [digB] using h
  unfold hexM
  rw[if_pos hd];omega
 ·intro h
  have hd:¬(48≤c.toNat∧c.toNat≤57):=by intro q;simp[digB,q] at h
  unfold hexM
  rw[if_neg hd]
  repeat' split
  all_goals omega
theorem portGo_eq (own:Int) (t:Bs):∀(l:Bs) (n:Int),0≤n→portGo own t (min 65536 n) l=(digM 10 n l).bind fun n=>if 65535<n then none else if t=[]∨n=own then some (-1) else some n
 | [],n,h0=>by
  simp only[portGo,digM,Option.bind_some]
  by_cases h:65535<n
  ·rw[if_pos bo%,if_pos h]
  ·have:min (65536:Int) n=n:=by omega
   rw[this]
 | c :: l,n,h0=>by
  simp only[portGo,digM]
  cases hd:digB c with
  | false =>
   have:=hexM_dig.2 hd
   rw[if_neg (by simp),if_pos bo%];rfl
  | true =>
   obtain ⟨e,h1,h2⟩:=hexM_dig.1 hd
   rw[if_pos rfl]
   by_cases hb:4294967295<n
   ·rw[if_pos (.inr (.inr hb))]
    have:min (65536:Int) (10*min 65536 n+((c.toNat:Int)-48))=65536:=by omega
    rw[this,portGo_big];rfl
   ·rw[if_neg bo%,←portGo_eq own t l (n*10+hexM c) bo%]
    congr 1
    omega
theorem portM_eq (own:Int) (s:Bs):portGo own s 0 s=portM own s:=by
 have:=portGo_eq own s s 0 bo%
 rw[show min (65536:Int) 0=0 from rfl] at this
 rw[this]
 unfold portM
 by_cases h:s=[]
 ·subst h;simp[digM]
 ·rw[if_neg h]
  congr 1
  funext n
  simp[h]
theorem atM_one (c x:UInt8) (l:Bs):atM [c] (x :: l)=if x=c then [] else x :: atM [c] l:=by
 simp only[atM,List.takeWhile_cons]
 by_cases h:x=c
 ·subst h;simp
 ·simp[h]
theorem cut1_at (c:UInt8):∀s:Bs,cut1 c s=(atM [c] s,if (atM [c] s).length<s.length then some (s.drop ((atM [c] s).length+1)) else none)
 | []=>rfl
 | x :: l=>by
  have ih:=cut1_at c l
  simp only[cut1]
  rw[atM_one]
  by_cases h:x=c
  ·subst h;simp
  ·rw[if_neg h,if_neg h,ih]
   simp only[List.length_cons]
   congr 1
   by_cases g:(atM [c] l).length<l.length
   ·rw[if_pos g,if_pos bo%];rfl
   ·rw[if_neg g,if_neg bo%]
theorem encM_cong {a b:Bs} (h:∀c,a.contains c=b.contains c) (s:Bs):encM a s=encM b s:=by
 unfold encM
 congr 1
 funext c
 unfold encB
 rw[h c]
theorem encB_len (any:Bs) (c:UInt8):(encB any c).length≤3:=by unfold encB;split <;> simp
theorem encM_len (any:Bs):∀s:Bs,(encM any s).length≤3*s.length
 | []=>by simp[encM]
 | c :: l=>by
  have h1:=encB_len any c
  have h2:=encM_len any l
  have:encM any (c :: l)=encB any c++encM any l:=by simp[encM]
  rw[this];simp;omega
def tailM (u:TUrl) (s:Bs):TUrl :=
 (u.1,u.2.1,u.2.2.1,u.2.2.2.1,u.2.2.2.2.1,u.2.2.2.2.2.1,u.2.2.2.2.2.2.1,decide ((cut1 35 s).1≠[]),encM setQ ((cut1 35 s).1.drop 1),(cut1 35 s).2.isSome,encM setF ((cut1 35 s).2.getD []),())
def tailS (u:TUrl) (s:Bs):TUrl :=
 (u.1,u.2.1,u.2.2.1,u.2.2.2.1,u.2.2.2.2.1,u.2.2.2.2.2.1,u.2.2.2.2.2.2.1,(if (cut1 35 s).1≠[] then true else u.2.2.2.2.2.2.2.1),(if (cut1 35 s).1≠[] then encM setQ ((cut1 35 s).1.drop 1) else u.2.2.2.2.2.2.2.2.1),
  (if (cut1 35 s).2.isSome then true else u.2.2.2.2.2.2.2.2.2.1),(if (cut1 35 s).2.isSome then encM setF ((cut1 35 s).2.getD []) else u.2.2.2.2.2.2.2.2.2.2.1),())
section
open Go.Lib
theorem replaceK_count (old new:Bs):∀(f:Nat) (s:Bs),s.length<f→old≠[]→replaceK old new (countFrom old f s) s=replaceK old new f s
 | 0,s,h,_=>absurd h (Nat.not_lt_zero _)
 | f+1,s,h,ho=>by
  simp only[countFrom]
  by_cases hm:(index s old == -1)=true
  ·rw[if_pos hm,replaceK,replaceK,if_pos hm]
  ·rw[if_neg hm,Nat.add_comm 1,replaceK,if_neg hm,replaceK,if_neg hm]
   have hge:=index_ge s old
   have hne:index s old≠-1:=fun e=>hm (by rw[e];rfl)
   have hr:=index_room s old bo%
   have hl:0<old.length:=List.length_pos_iff.2 ho
   rw[replaceK_count old new f _ (by rw[List.length_drop];omega) ho]
theorem replaceK_fuel (old new:Bs) (ho:old≠[]):∀(f g:Nat) (s:Bs),s.length<f→s.length<g→replaceK old new f s=replaceK old new g s
 | 0,_,s,h,_=>absurd h (Nat.not_lt_zero _)
 | _,0,s,_,h=>absurd h (Nat.not_lt_zero _)
 | f+1,g+1,s,h1,h2=>by
  rw[replaceK,replaceK]
  by_cases hm:(index s old == -1)=true
  ·rw[if_pos hm,if_pos hm]
  ·rw[if_neg hm,if_neg hm]
   have hge:=index_ge s old
   have hne:index s old≠-1:=fun e=>hm (by rw[e];rfl)
   have hr:=index_room s old bo%
   have hl:0<old.length:=List.length_pos_iff.2 ho
   rw[replaceK_fuel old new ho f g _ (by rw[List.length_drop];omega) (by rw[List.length_drop];omega)]
def repM (old new s:Bs):Bs:=replaceK old new (s.length+1) s
theorem replaceAll_rep {old new:Bs} (ho:old≠[]) (hn:old≠new) (s:Bs):replaceAll s old new=repM old new s:=by
 unfold replaceAll replace replaceNum repM count
 rw[if_neg (by simpa using hn),if_pos (.inl bo%),replaceK_count old new _ s bo% ho]
theorem repM_nil (old new:Bs) (ho:old≠[]):repM old new []=[]:=by
 unfold repM
 rw[replaceK]
 have:index [] old = -1:=by cases old with | nil=>exact absurd rfl ho | cons a l=>rfl
 rw[this];rfl
theorem repM_cons (old new:Bs) (ho:old≠[]) (c:UInt8) (l:Bs):repM old new (c :: l)=if old.isPrefixOf (c :: l)=true then new++repM old new ((c :: l).drop old.length) else c :: repM old new l:=by
 have hl:0<old.length:=List.length_pos_iff.2 ho
 by_cases hp:old.isPrefixOf (c :: l)=true
 ·have hi:index (c :: l) old=0:=by unfold index;rw[if_pos hp]
  rw[if_pos hp]
  unfold repM
  rw[replaceK_hit old new _ _ 0 hi]
  simp only[List.take_zero,List.nil_append,Nat.zero_add]
  rw[replaceK_fuel old new ho _ ((List.drop old.length (c :: l)).length+1) _ (by simp;omega) bo%]
 ·rw[if_neg hp]
  have hi:index (c :: l) old=if index l old == -1 then -1 else index l old+1:=by unfold index;rw[if_neg hp];cases l <;> rfl
  unfold repM
  by_cases hm:(index l old == -1)=true
  ·rw[replaceK,hi,if_pos hm,if_pos (show ((-1:Int) == -1)=true from rfl),replaceK,if_pos hm]
  ·have hge:=index_ge l old
   have hne:index l old≠-1:=fun e=>hm (by rw[e];rfl)
   obtain ⟨k,hk⟩:∃k:Nat,index l old=k:=⟨(index l old).toNat,by omega⟩
   rw[if_neg hm] at hi
   rw[replaceK_hit old new _ _ (k+1) (by rw[hi,hk];omega),replaceK_hit old new _ _ k hk]
   rw[show k+1+old.length=(k+old.length)+1 by omega]
   simp only[List.take_succ_cons,List.drop_succ_cons,List.cons_append,List.length_cons]
   have hr:=index_room l old bo%
   rw[replaceK_fuel old new ho (l.length+1) l.length _ (by rw[List.length_drop];omega) (by rw[List.length_drop];omega)]
end
theorem rep_slash (s:Bs):repM [92] [47] s=s.map slB:=by
 induction s with
 | nil=>exact repM_nil _ _ (by simp)
 | cons c l ih =>
  rw[repM_cons _ _ (by simp),List.map_cons]
  by_cases h:c=92
  ·subst h
   rw[if_pos (by simp[List.isPrefixOf])]
   simp[ih,slB]
  ·rw[if_neg (by simp[List.isPrefixOf];exact fun q=>h q.symm),ih]
   simp[slB,h]
def rep3 (s:Bs):Bs:=repM [37,50,101] [46] s
theorem rep3_nil:rep3 []=[]:=repM_nil _ _ (by simp)
theorem rep3_cons (c:UInt8) (l:Bs):(∃r,c :: l=37 :: 50 :: 101 :: r∧rep3 (c :: l)=46 :: rep3 r)∨((∀r,c :: l≠37 :: 50 :: 101 :: r)∧rep3 (c :: l)=c :: rep3 l):=by
 unfold rep3
 rw[repM_cons _ _ (by simp)]
 by_cases h:([37,50,101]:Bs).isPrefixOf (c :: l)=true
 ·obtain ⟨r,hr⟩:=List.isPrefixOf_iff_prefix.1 h
  left
  refine ⟨r,hr.symm,?_⟩
  rw[if_pos h,←hr];rfl
 ·right
  refine ⟨fun r hr=>h (by rw[hr];simp[List.isPrefixOf]),by rw[if_neg h]⟩
theorem rep3_eq_nil {l:Bs}:rep3 l=[]↔l=[]:=by
 cases l with
 | nil=>simp[rep3_nil]
 | cons c l =>
  rcases rep3_cons c l with ⟨r,_,h⟩ | ⟨_,h⟩ <;> rw[h] <;> simp
theorem rep3_dot {l:Bs}:rep3 l=[46]↔l=[46]∨l=[37,50,101]:=by
 cases l with
 | nil=>simp[rep3_nil]
 | cons c l =>
  rcases rep3_cons c l with ⟨r,e,h⟩ | ⟨e,h⟩
  ·rw[h,e];simp[rep3_eq_nil]
  ·rw[h]
   have:=e []
   simp only[List.cons.injEq,rep3_eq_nil]
   constructor
   ·exact .inl
   ·rintro (q | ⟨rfl,rfl⟩)
    ·exact q
    ·exact absurd rfl this
theorem rep3_dots {l:Bs}:rep3 l=[46,46]↔l=[46,46]∨l=[46,37,50,101]∨l=[37,50,101,46]∨l=[37,50,101,37,50,101]:=by
 cases l with
 | nil=>simp[rep3_nil]
 | cons c l =>
  rcases rep3_cons c l with ⟨r,e,h⟩ | ⟨e,h⟩
  ·rw[h,e];simp[rep3_dot]
  ·rw[h]
   have e1:=e [46]
   have e2:=e [37,50,101]
   simp only[List.cons.injEq,rep3_dot]
   constructor
   ·rintro ⟨rfl,q | q⟩
    ·exact .inl ⟨rfl,q⟩
    ·exact .inr (.inl ⟨rfl,q⟩)
   ·rintro (q | q | ⟨rfl,rfl⟩ | ⟨rfl,rfl⟩)
    ·exact ⟨q.1,.inl q.2⟩
    ·exact ⟨q.1,.inr q.2⟩
    ·exact absurd rfl e1
    ·exact absurd rfl e2
theorem dots_rep (s:Bs):(if rep3 (lowM s)=[46] then (1:Int) else if rep3 (lowM s)=[46,46] then 2 else 0)=dotsM s:=by
 unfold dotsM
 simp only[rep3_dot,rep3_dots]
def okH (h:THost):Bool:=hostOkM h.1 h.2.1 h.2.2.1
def putH (h:THost):Bs:=hostPutM h.1 h.2.1 h.2.2.1
def hostGetM (s:Bs):Option THost :=
 let t:=lowM (if s.length≤600 then decM s else [])
 if 200<s.length∨t=[] then none else if endsM t=true then (fourGetM t).map fun v=>(2,[],v,()) else if isNameM t=true then some (1,t,0,()) else none
def tailTextM (u:TUrl):Bs:=(if u.2.2.2.2.2.2.2.1=true then 63 :: u.2.2.2.2.2.2.2.2.1 else [])++(if u.2.2.2.2.2.2.2.2.2.1=true then 35 :: u.2.2.2.2.2.2.2.2.2.2.1 else [])
def whoT (u:TUrl):Bs:=if u.2.1≠[]∨u.2.2.1≠[] then u.2.1++((if u.2.2.1≠[] then 58 :: u.2.2.1 else [])++[64]) else []
def portT (p:Int):Bs:=if 0≤p then 58 :: Lib.decDigits p.toNat else []
def putM (u:TUrl):Bs :=
 if portS u.1<0 then u.1++(58 :: (u.2.2.2.2.2.2.1++tailTextM u))
 else u.1++(58 :: 47 :: 47 :: (whoT u++(putH u.2.2.2.1++(portT u.2.2.2.2.1++(pathM u.2.2.2.2.2.1++tailTextM u)))))
def szU (u:TUrl):Nat:=u.1.length+u.2.1.length+u.2.2.1.length+u.2.2.2.1.2.1.length+(pathM u.2.2.2.2.2.1).length+u.2.2.2.2.2.2.1.length+u.2.2.2.2.2.2.2.2.1.length+u.2.2.2.2.2.2.2.2.2.2.1.length
def BU (u:TUrl):Prop:=szU u≤3000000∧u.2.2.2.2.1≤9223372036854775807
def lastIx (c:UInt8):Bs→Int
 | []=>-1
 | x :: l=>if 0≤lastIx c l then lastIx c l+1 else if x=c then 0 else -1
theorem lastIx_range (c:UInt8):∀l:Bs,-1≤lastIx c l∧lastIx c l<l.length
 | []=>by simp[lastIx]
 | x :: l=>by
  have:=lastIx_range c l
  simp only[lastIx,List.length_cons]
  repeat' split
  all_goals omega
theorem lastIx_snoc (c x:UInt8):∀t:Bs,lastIx c (t++[x])=if x=c then (t.length:Int) else lastIx c t
 | []=>by simp[lastIx]
 | y :: t=>by
  have ih:=lastIx_snoc c x t
  have hr:=lastIx_range c t
  simp only[List.cons_append,lastIx,ih,List.length_cons]
  by_cases h:x=c
  ·simp only[h,if_true]
   rw[if_pos bo%];omega
  ·simp only[h,if_false]
def atSign (s:Bs):Option Bs×Bs:=if 0≤lastIx 64 s then (some (s.take (lastIx 64 s).toNat),s.drop ((lastIx 64 s).toNat+1)) else (none,s)
def hostedM (sch s:Bs):Option TUrl :=
 let auth:=atM [47,92,63,35] s
 let r:=fromM [47,92,63,35] s
 let a:=atSign auth
 let hp:=cut1 58 a.2
 match hostGetM hp.1,portM (portS sch) (hp.2.getD []) with
 | some h,some p=>some (tailM (sch,(match a.1 with | some w=>encM setU (cut1 58 w).1 | none=>[]),(match a.1 with | some w=>encM setU ((cut1 58 w).2.getD []) | none=>[]),h,p,pathGetM (atM [63,35] r),[],false,[],false,[],()) (fromM [63,35] r))
 | _,_=>none
def readM (sch rest:Bs):Option TUrl :=
 if portS sch<0 then some (tailM (sch,[],[],(0,[],0,()),-1,[],encM setO (atM [63,35] rest),false,[],false,[],()) (fromM [63,35] rest))
 else hostedM sch (rest.dropWhile isSl)
def fitsM (u:TUrl):Bool:=decide (u.2.2.2.2.2.1.length≤12)&&decide ((putM u).length≤600)
def getM (t:Bs):Option TUrl :=
 if 200<t.length then none else match schM (stripM t) with
 | some p=>match readM p.1 p.2 with
  | some u=>if fitsM u=true then some u else none
  | none=>none
 | none=>none
def eqU (u v:TUrl):Bool:=decide (u.1=v.1)&&(decide (u.2.1=v.2.1)&&(decide (u.2.2.1=v.2.2.1)&&((decide (u.2.2.2.1.1=v.2.2.2.1.1)&&(decide (u.2.2.2.1.2.1=v.2.2.2.1.2.1)&&decide (u.2.2.2.1.2.2.1=v.2.2.2.1.2.2.1)))&&(decide (u.2.2.2.2.1=v.2.2.2.2.1)&&(decide (u.2.2.2.2.2.1=v.2.2.2.2.2.1)&&(decide (u.2.2.2.2.2.2.1=v.2.2.2.2.2.2.1)&&(decide (u.2.2.2.2.2.2.2.1=v.2.2.2.2.2.2.2.1) &&
 (decide (u.2.2.2.2.2.2.2.2.1=v.2.2.2.2.2.2.2.2.1)&&(decide (u.2.2.2.2.2.2.2.2.2.1=v.2.2.2.2.2.2.2.2.2.1)&&decide (u.2.2.2.2.2.2.2.2.2.2.1=v.2.2.2.2.2.2.2.2.2.2.1))))))))))
theorem eqU_iff (u v:TUrl):eqU u v=true↔u=v:=by
 obtain ⟨a1,a2,a3,⟨h1,h2,h3,⟨⟩⟩,a5,a6,a7,a8,a9,a10,a11,⟨⟩⟩:=u
 obtain ⟨b1,b2,b3,⟨k1,k2,k3,⟨⟩⟩,b5,b6,b7,b8,b9,b10,b11,⟨⟩⟩:=v
 unfold eqU
 simp only[Bool.and_eq_true,decide_eq_true_eq,Prod.mk.injEq]
 constructor
 ·rintro ⟨h1,h2,h3,⟨h4,h5,h6⟩,h7,h8,h9,h10,h11,h12,h13⟩
  exact ⟨h1,h2,h3,⟨h4,h5,h6,trivial⟩,h7,h8,h9,h10,h11,h12,h13,trivial⟩
 ·rintro ⟨h1,h2,h3,⟨h4,h5,h6,_⟩,h7,h8,h9,h10,h11,h12,h13,_⟩
  exact ⟨h1,h2,h3,⟨h4,h5,h6⟩,h7,h8,h9,h10,h11,h12,h13⟩
def okU (u:TUrl):Bool:=match getM (putM u) with
 | some v=>eqU v u
 | none=>false
theorem okU_iff (u:TUrl):okU u=true↔getM (putM u)=some u:=by
 unfold okU
 cases h:getM (putM u) with
 | none=>simp
 | some v=>simp[eqU_iff]
def hostZ:THost:=(0,[],0,())
def urlZ:TUrl:=([],[],[],hostZ,0,[],[],false,[],false,[],())
end Go.VM
namespace Go.VM
def plain (any:Bs) (c:UInt8):Bool:=decide (33≤c.toNat)&&decide (c.toNat≤126) && !any.contains c
theorem plain_iff (any:Bs) (c:UInt8):plain any c=true↔33≤c.toNat∧c.toNat≤126∧any.contains c=false:=by
 unfold plain;simp only[Bool.and_eq_true,decide_eq_true_eq,Bool.not_eq_true',and_assoc]
def plainS (any s:Bs):Prop:=∀c∈s,plain any c=true
theorem encB_id {any:Bs} {c:UInt8} (h:plain any c=true):encB any c=[c]:=by
 obtain ⟨h1,h2,h3⟩:=(plain_iff _ _).1 h
 unfold encB
 rw[if_neg]
 rintro (h | h | h)
 ·omega
 ·omega
 ·rw[h3] at h;cases h
theorem encM_id {any:Bs}:∀ {s:Bs},plainS any s→encM any s=s
 | [],_=>rfl
 | c :: l,h=>by
  have:encM any (c :: l)=encB any c++encM any l:=by simp[encM]
  rw[this,encB_id (h c (by simp)),encM_id fun d hd=>h d (by simp[hd])];rfl
theorem plainS_nil (any:Bs):plainS any []:=fun c h=>by cases h
theorem plainS_app {any a b:Bs}:plainS any (a++b)↔plainS any a∧plainS any b:=by
 constructor
 ·intro h;exact ⟨fun c hc=>h c (by simp[hc]),fun c hc=>h c (by simp[hc])⟩
 ·rintro ⟨h,k⟩ c hc
  rcases List.mem_append.1 hc with hc | hc
  ·exact h c hc
  ·exact k c hc
def vis (c:UInt8):Prop:=33≤c.toNat∧c.toNat≤126
theorem plain_vis {any:Bs} {c:UInt8} (h:plain any c=true):vis c:=⟨((plain_iff _ _).1 h).1,((plain_iff _ _).1 h).2.1⟩
theorem plain_ne {any:Bs} {c d:UInt8} (h:plain any c=true) (hd:any.contains d=true):c≠d:=fun e=>by
 subst e;have:=((plain_iff _ _).1 h).2.2;rw[hd] at this;cases this
theorem dropWhile_id {α:Type} (p:α→Bool):∀ {l:List α},(∀c,l.head? = some c→p c=false)→l.dropWhile p=l
 | [],_=>rfl
 | c :: l,h=>by rw[List.dropWhile_cons_of_neg (by rw[h c rfl];simp)]
theorem strip_id {l:Bs} (h:∀c∈l,vis c):stripM l=l:=by
 have hb:∀c∈l,decide (c.toNat≤32)=false:=fun c hc=>by have:=h c hc;simp only[vis] at this;simp;omega
 have h1:(l.dropWhile fun c=>decide (c.toNat≤32))=l:=dropWhile_id _ fun c hc=>hb c (List.mem_of_mem_head? hc)
 have h2:(l.reverse.dropWhile fun c=>decide (c.toNat≤32))=l.reverse:=dropWhile_id _ fun c hc=>hb c (by simpa using List.mem_of_mem_head? hc)
 unfold stripM trimM
 rw[h1,h2,List.reverse_reverse,List.filter_eq_self]
 intro c hc
 have:=h c hc
 simp only[vis] at this
 have e1:c≠9:=fun e=>by subst e;simp at this
 have e2:c≠10:=fun e=>by subst e;simp at this
 have e3:c≠13:=fun e=>by subst e;simp at this
 simp[e1,e2,e3]
theorem at_app {any A B:Bs} (hA:∀c∈A,any.contains c=false) (hB:∀c,B.head? = some c→any.contains c=true):atM any (A++B)=A∧fromM any (A++B)=B:=by
 induction A with
 | nil =>
  cases B with
  | nil=>exact ⟨rfl,rfl⟩
  | cons b l =>
   have:=hB b rfl
   simp only[atM,fromM,List.nil_append,List.takeWhile_cons,List.dropWhile_cons,this]
   simp
 | cons a A ih =>
  obtain ⟨h1,h2⟩:=ih fun c hc=>hA c (by simp[hc])
  have:=hA a (by simp)
  simp only[atM,fromM] at h1 h2
  simp only[atM,fromM,List.cons_append,List.takeWhile_cons,List.dropWhile_cons,this,Bool.not_false,if_true,h1,h2,and_self]
theorem cut1_app {c:UInt8} {A:Bs} (hA:c ∉ A) (B:Bs):cut1 c (A++c :: B)=(A,some B):=by
 induction A with
 | nil=>simp[cut1]
 | cons a A ih =>
  have h1:a≠c:=fun e=>hA (by simp[e])
  simp only[List.cons_append,cut1,if_neg h1,ih fun h=>hA (by simp[h])]
theorem cut1_no {c:UInt8} {A:Bs} (hA:c ∉ A):cut1 c A=(A,none):=by
 induction A with
 | nil=>rfl
 | cons a A ih =>
  have h1:a≠c:=fun e=>hA (by simp[e])
  simp only[cut1,if_neg h1,ih fun h=>hA (by simp[h])]
theorem lastIx_none {c:UInt8}:∀ {A:Bs},c ∉ A→lastIx c A = -1
 | [],_=>rfl
 | a :: A,h=>by
  have h1:a≠c:=fun e=>h (by simp[e])
  simp only[lastIx,lastIx_none (A:=A) fun k=>h (List.mem_cons_of_mem _ k)]
  simp[h1]
theorem lastIx_app {c:UInt8} {B:Bs} (hB:c ∉ B):∀A:Bs,lastIx c (A++c :: B)=(A.length:Int)
 | []=>by simp only[List.nil_append,lastIx,lastIx_none hB];simp
 | a :: A=>by
  simp only[List.cons_append,lastIx,lastIx_app hB A]
  rw[if_pos bo%];simp
theorem atSign_no {A:Bs} (h:(64:UInt8) ∉ A):atSign A=(none,A):=by unfold atSign;rw[lastIx_none h];simp
theorem atSign_app {W R:Bs} (h:(64:UInt8) ∉ R):atSign (W++64 :: R)=(some W,R):=by
 unfold atSign
 rw[lastIx_app h]
 simp
def okSeg (s:Bs):Prop:=plainS setP s∧(47:UInt8) ∉ s∧(92:UInt8) ∉ s∧dotsM s=0
theorem walk_app:∀(parts out:List Bs),(∀s∈parts,okSeg s)→walkM out parts=out++parts
 | [],out,_=>by simp[walkM]
 | p :: l,out,h=>by
  obtain ⟨h1,_,_,h4⟩:=h p (by simp)
  simp only[walkM]
  rw[if_pos h4,encM_id h1,h4,if_neg bo%,walk_app l _ fun s hs=>h s (by simp[hs])]
  simp
theorem slB_id {s:Bs} (h:(92:UInt8) ∉ s):s.map slB=s:=by
 induction s with
 | nil=>rfl
 | cons c l ih =>
  have:c≠92:=fun e=>h (by simp[e])
  rw[List.map_cons,ih fun k=>h (by simp[k])]
  simp[slB,this]
theorem path_cons (s:Bs) (l:List Bs):pathM (s :: l)=47 :: s++pathM l:=rfl
theorem path_no92:∀ {xs:List Bs},(∀s∈xs,okSeg s)→(92:UInt8) ∉ pathM xs
 | [],_=>by simp[pathM]
 | s :: l,h=>by
  rw[path_cons]
  have h1:=(h s (by simp)).2.2.1
  have h2:=path_no92 (xs:=l) fun s hs=>h s (by simp[hs])
  simp[h1,h2]
theorem path_plain:∀ {xs:List Bs},(∀s∈xs,okSeg s)→plainS setP (pathM xs)
 | [],_=>plainS_nil _
 | s :: l,h=>by
  rw[path_cons]
  refine plainS_app.2 ⟨fun c hc=>?_,path_plain fun s hs=>h s (by simp[hs])⟩
  rcases List.mem_cons.1 hc with rfl | hc
  ·decide
  ·exact (h s (by simp)).1 c hc
theorem cut_path:∀ {xs:List Bs} {s:Bs},(∀t∈s :: xs,(47:UInt8) ∉ t)→cutM 47 (s++pathM xs)=s :: xs
 | [],s,h=>by simp only[pathM,List.append_nil];exact cutM_none 47 s (h s (by simp))
 | t :: l,s,h=>by
  rw[path_cons,List.cons_append,cutM_app 47 s _ (h s (by simp)),cut_path (xs:=l) (s:=t) fun u hu=>h u (by simp at hu ⊢;right;exact hu)]
theorem path_round {xs:List Bs} (hn:xs≠[]) (h:∀s∈xs,okSeg s) (hl:(pathM xs).length≤200):pathGetM (pathM xs)=xs:=by
 cases xs with
 | nil=>exact absurd rfl hn
 | cons s l =>
  unfold pathGetM
  rw[if_neg bo%,path_cons]
  simp only[List.cons_append]
  rw[if_pos (by decide)]
  have h92:(92:UInt8) ∉ s++pathM l:=fun k=>path_no92 h (by rw[path_cons];simp only[List.cons_append,List.mem_cons];exact .inr k)
  unfold piecesM
  rw[slB_id h92,cut_path fun t ht=>(h t ht).2.1,walk_app _ _ h];rfl
end Go.VM
namespace Go.VM
theorem u8_all {p:UInt8→Bool} (h:(List.range 256).all (fun k=>p (UInt8.ofNat k))=true) (c:UInt8):p c=true:=by
 have:=List.all_eq_true.1 h c.toNat (List.mem_range.2 c.toNat_lt)
 simpa using this
def hostC (c:UInt8):Bool:=c==46||nb c
theorem hostC_ok {c:UInt8} (h:hostC c=true):vis c∧([47,92,63,35,64,58]:Bs).contains c=false:=by
 have:=u8_all (p:=fun c=>!hostC c||(decide (33≤c.toNat)&&decide (c.toNat≤126) && !([47,92,63,35,64,58]:Bs).contains c)) (by decide +kernel) c
 rw[h] at this
 simp only[Bool.not_true,Bool.false_or,Bool.and_eq_true,decide_eq_true_eq,Bool.not_eq_true'] at this
 exact ⟨this.1,this.2⟩
theorem dig_hostC {c:UInt8} (h:digB c=true):hostC c=true:=by
 have:=u8_all (p:=fun c=>!digB c||hostC c) (by decide +kernel) c
 rw[h] at this
 simpa using this
theorem dec_digB (u:Nat):∀c∈Lib.decDigits u,digB c=true:=by
 rw[Lib.decDigits_eq]
 intro c hc
 obtain ⟨t,_,rfl⟩:=List.mem_map.1 hc
 unfold Lib.dg digB
 have:u / 10 ^ (Lib.nDigits u-1-t) % 10<10:=Nat.mod_lt _ bo%
 simp only[UInt8.toNat_ofNat',Bool.and_eq_true,decide_eq_true_eq]
 omega
def portD (p:Int):Bs:=if 0≤p then Lib.decDigits p.toNat else []
structure ChT (hq:Bool) (q:Bs) (hf:Bool) (f:Bs):Prop where
 pq:plainS setQ q
 q0:hq=false→q=[]
 pf:plainS setF f
 f0:hf=false→f=[]
structure Ch (sch user pass:Bs) (h:THost) (p:Int) (path:List Bs) (hq:Bool) (q:Bs) (hf:Bool) (f:Bs):Prop where
 sch:0≤portS sch
 user:plainS setU user
 pass:plainS setU pass
 hostN:putH h≠[]
 hostB:∀c∈putH h,hostC c=true
 port:-1≤p∧p≤65535
 pathN:path≠[]
 pathS:∀s∈path,okSeg s
 tl:ChT hq q hf f
def tailT2 (hq:Bool) (q:Bs) (hf:Bool) (f:Bs):Bs:=(if hq=true then 63 :: q else [])++(if hf=true then 35 :: f else [])
theorem tail_put {hq:Bool} {q:Bs} {hf:Bool} {f:Bs} (C:ChT hq q hf f) (a b c:Bs) (h:THost) (p:Int) (l:List Bs) (o:Bs) (x1:Bool) (x2:Bs) (x3:Bool) (x4:Bs) :
  tailM (a,b,c,h,p,l,o,x1,x2,x3,x4,()) (tailT2 hq q hf f)=(a,b,c,h,p,l,o,hq,q,hf,f,()):=by
 have h35:(35:UInt8) ∉ q:=fun k=>plain_ne (C.pq 35 k) (by decide) rfl
 have e:cut1 35 (tailT2 hq q hf f)=((if hq=true then 63 :: q else []),if hf=true then some f else none):=by
  unfold tailT2
  have hn:(35:UInt8) ∉ (if hq=true then 63 :: q else []):=by
   split
   ·simp[h35]
   ·simp
  cases hf with
  | true=>simp only[if_true];exact cut1_app hn f
  | false=>simp only[Bool.false_eq_true,if_false,List.append_nil];exact cut1_no hn
 simp only[tailM,e]
 have eq:=encM_id C.pq
 have ef:=encM_id C.pf
 cases hq <;> cases hf <;> simp_all [encM,ChT]
 all_goals first
  | (have:=C.q0 rfl;have:=C.f0 rfl;simp_all)
  | (have:=C.q0 rfl;simp_all)
  | (have:=C.f0 rfl;simp_all)
  | skip
theorem schM_http (sch:Bs) (h:0≤portS sch) (r:Bs):schM (sch++58 :: r)=some (sch,r):=by
 have:sch=httpB∨sch=httpsB:=by
  unfold portS at h
  split at h
  ·exact .inl ‹_›
  ·split at h
   ·exact .inr ‹_›
   ·omega
 rcases this with rfl | rfl
 ·unfold schM
  rw[cut1_app (by decide) r]
  show (if letB 104=true∧_ then some (lowM _,r) else none)=_
  rw[if_pos (by decide)]
  rfl
 ·unfold schM
  rw[cut1_app (by decide) r]
  show (if letB 104=true∧_ then some (lowM _,r) else none)=_
  rw[if_pos (by decide)]
  rfl
def visS (l:Bs):Prop:=∀c∈l,vis c
theorem visS_nil:visS []:=fun c h=>by cases h
theorem visS_cons {c:UInt8} {l:Bs} (h:vis c) (k:visS l):visS (c :: l):=fun d hd=>by
 rcases List.mem_cons.1 hd with rfl | hd
 ·exact h
 ·exact k d hd
theorem visS_app {a b:Bs} (h:visS a) (k:visS b):visS (a++b):=fun d hd=>by
 rcases List.mem_append.1 hd with hd | hd
 ·exact h d hd
 ·exact k d hd
theorem plainS_vis {any s:Bs} (h:plainS any s):visS s:=fun c hc=>plain_vis (h c hc)
theorem host_vis {s:Bs} (h:∀c∈s,hostC c=true):visS s:=fun c hc=>(hostC_ok (h c hc)).1
theorem dec_vis (u:Nat):visS (Lib.decDigits u):=host_vis fun c hc=>dig_hostC (dec_digB u c hc)
theorem portT_vis (p:Int):visS (portT p):=by
 unfold portT
 split
 ·exact visS_cons ⟨by decide,by decide⟩ (dec_vis _)
 ·exact visS_nil
theorem tailT2_vis {hq:Bool} {q:Bs} {hf:Bool} {f:Bs} (C:ChT hq q hf f):visS (tailT2 hq q hf f):=by
 unfold tailT2
 refine visS_app ?_ ?_
 ·split
  ·exact visS_cons ⟨by decide,by decide⟩ (plainS_vis C.pq)
  ·exact visS_nil
 ·split
  ·exact visS_cons ⟨by decide,by decide⟩ (plainS_vis C.pf)
  ·exact visS_nil
theorem http_vis {sch:Bs} (h:0≤portS sch):visS sch:=by
 unfold portS at h
 split at h
 ·rename_i e;subst e;intro c hc;revert c;unfold httpB;simp[vis]
 ·split at h
  ·rename_i e;subst e;intro c hc;revert c;unfold httpsB;simp[vis]
  ·omega
def whoT2 (user pass:Bs):Bs:=if user≠[]∨pass≠[] then user++((if pass≠[] then 58 :: pass else [])++[64]) else []
def putT (sch user pass:Bs) (h:THost) (p:Int) (path:List Bs) (hq:Bool) (q:Bs) (hf:Bool) (f:Bs):Bs :=
 sch++(58 :: 47 :: 47 :: (whoT2 user pass++(putH h++(portT p++(pathM path++tailT2 hq q hf f)))))
theorem putM_host {sch user pass:Bs} {h:THost} {p:Int} {path:List Bs} {o:Bs} {hq:Bool} {q:Bs} {hf:Bool} {f:Bs} (hs:0≤portS sch) :
  putM (sch,user,pass,h,p,path,o,hq,q,hf,f,())=putT sch user pass h p path hq q hf f:=by
 unfold putM
 simp only
 rw[if_neg bo%]
 rfl
variable {sch user pass:Bs} {h:THost} {p:Int} {path:List Bs} {hq:Bool} {q:Bs} {hf:Bool} {f:Bs}
theorem who_vis (hu:plainS setU user) (hp:plainS setU pass):visS (whoT2 user pass):=by
 unfold whoT2
 split
 ·refine visS_app (plainS_vis hu) (visS_app ?_ (visS_cons ⟨by decide,by decide⟩ visS_nil))
  split
  ·exact visS_cons ⟨by decide,by decide⟩ (plainS_vis hp)
  ·exact visS_nil
 ·exact visS_nil
theorem put_vis (C:Ch sch user pass h p path hq q hf f):visS (putT sch user pass h p path hq q hf f) :=
 visS_app (http_vis C.sch) (visS_cons ⟨by decide,by decide⟩ (visS_cons ⟨by decide,by decide⟩ (visS_cons ⟨by decide,by decide⟩ (visS_app (who_vis C.user C.pass) (visS_app (host_vis C.hostB) (visS_app (portT_vis p) (visS_app (plainS_vis (path_plain C.pathS)) (tailT2_vis C.tl))))))))
theorem who_not (hu:plainS setU user) (hp:plainS setU pass):∀c∈whoT2 user pass,([47,92,63,35]:Bs).contains c=false:=by
 have key:∀c,plain setU c=true→([47,92,63,35]:Bs).contains c=false:=fun c hc=>by
  have:=u8_all (p:=fun c=>!plain setU c || !([47,92,63,35]:Bs).contains c) (by decide +kernel) c
  rw[hc] at this
  simpa using this
 intro c hc
 unfold whoT2 at hc
 split at hc
 ·simp only[List.mem_append,List.mem_singleton] at hc
  rcases hc with hc | hc | rfl
  ·exact key c (hu c hc)
  ·split at hc
   ·rcases List.mem_cons.1 hc with rfl | hc
    ·decide
    ·exact key c (hp c hc)
   ·cases hc
  ·decide
 ·cases hc
theorem port_not (p:Int):∀c∈portT p,([47,92,63,35]:Bs).contains c=false∧c≠64:=by
 intro c hc
 unfold portT at hc
 split at hc
 ·rcases List.mem_cons.1 hc with rfl | hc
  ·decide
  ·have:=(hostC_ok (dig_hostC (dec_digB _ c hc))).2
   simp only[List.contains_cons,List.contains_nil,Bool.or_false,Bool.or_eq_false_iff,beq_eq_false_iff_ne] at this ⊢
   exact ⟨⟨this.1,this.2.1,this.2.2.1,this.2.2.2.1⟩,this.2.2.2.2.1⟩
 ·cases hc
theorem host_not (hb:∀c∈putH h,hostC c=true):∀c∈putH h,([47,92,63,35]:Bs).contains c=false∧c≠64∧c≠58:=by
 intro c hc
 have:=(hostC_ok (hb c hc)).2
 simp only[List.contains_cons,List.contains_nil,Bool.or_false,Bool.or_eq_false_iff,beq_eq_false_iff_ne] at this ⊢
 exact ⟨⟨this.1,this.2.1,this.2.2.1,this.2.2.2.1⟩,this.2.2.2.2⟩
theorem tailT2_head {hq:Bool} {q:Bs} {hf:Bool} {f:Bs}:∀c,(tailT2 hq q hf f).head? = some c→([63,35]:Bs).contains c=true:=by
 intro c hc
 unfold tailT2 at hc
 cases hq <;> cases hf <;> simp at hc <;> subst hc <;> decide
theorem path_head {xs:List Bs} (hn:xs≠[]) (B:Bs):(pathM xs++B).head? = some 47:=by
 cases xs with
 | nil=>exact absurd rfl hn
 | cons s l=>rfl
theorem hosted_put (C:Ch sch user pass h p path hq q hf f) (hl:(pathM path).length≤200) :
  readM sch (47 :: 47 :: (whoT2 user pass++(putH h++(portT p++(pathM path++tailT2 hq q hf f)))))=(match hostGetM (putH h),portM (portS sch) (portD p) with
   | some h',some p'=>some (sch,user,pass,h',p',path,[],hq,q,hf,f,())
   | _,_=>none):=by
 have hA:∀c∈whoT2 user pass++(putH h++portT p),([47,92,63,35]:Bs).contains c=false:=fun c hc=>by
  simp only[List.mem_append] at hc
  rcases hc with hc | hc | hc
  ·exact who_not C.user C.pass c hc
  ·exact (host_not C.hostB c hc).1
  ·exact (port_not p c hc).1
 have eX:whoT2 user pass++(putH h++(portT p++(pathM path++tailT2 hq q hf f)))=(whoT2 user pass++(putH h++portT p))++(pathM path++tailT2 hq q hf f):=by simp[List.append_assoc]
 have hne:whoT2 user pass++(putH h++portT p)≠[]:=by simp[C.hostN]
 unfold readM
 rw[if_neg (by have:=C.sch;omega)]
 have hd:(47 :: 47 :: (whoT2 user pass++(putH h++(portT p++(pathM path++tailT2 hq q hf f))))).dropWhile isSl=(whoT2 user pass++(putH h++portT p))++(pathM path++tailT2 hq q hf f):=by
  rw[List.dropWhile_cons_of_pos (by decide),List.dropWhile_cons_of_pos (by decide),eX]
  refine dropWhile_id _ fun c hc=>?_
  obtain ⟨a,A,e⟩:=List.exists_cons_of_ne_nil hne
  rw[e] at hc hA
  have hc:a=c:=by simpa using hc
  subst hc
  have:=hA a (by simp)
  simp only[List.contains_cons,Bool.or_eq_false_iff,beq_eq_false_iff_ne] at this
  simp only[isSl,Bool.or_eq_false_iff,beq_eq_false_iff_ne]
  exact ⟨this.1,this.2.1⟩
 rw[hd]
 obtain ⟨a1,a2⟩:=at_app (any:=[47,92,63,35]) (B:=pathM path++tailT2 hq q hf f) hA (fun c hc=>by rw[path_head C.pathN] at hc;cases hc;decide)
 have hP:∀c∈pathM path,([63,35]:Bs).contains c=false:=fun c hc=>by
  have hp:=path_plain C.pathS c hc
  have:=plain_ne hp (d:=63) (by decide)
  have:=plain_ne hp (d:=35) (by decide)
  simp[*]
 obtain ⟨b1,b2⟩:=at_app (any:=[63,35]) (B:=tailT2 hq q hf f) hP (tailT2_head)
 have hno64:(64:UInt8) ∉ putH h++portT p:=fun k=>by
  rcases List.mem_append.1 k with k | k
  ·exact (host_not C.hostB _ k).2.1 rfl
  ·exact (port_not p _ k).2 rfl
 have hcut:cut1 58 (putH h++portT p)=(putH h,if 0≤p then some (portD p) else none):=by
  have hn58:(58:UInt8) ∉ putH h:=fun k=>(host_not C.hostB _ k).2.2 rfl
  unfold portT portD
  split
  ·exact cut1_app hn58 _
  ·rw[List.append_nil];exact cut1_no hn58
 have hpd:(if 0≤p then some (portD p) else none).getD []=portD p:=by
  split
  ·rfl
  ·rename_i hp;unfold portD;rw[if_neg hp];rfl
 have hwho:∃w,atSign (whoT2 user pass++(putH h++portT p))=(w,putH h++portT p)∧(match w with | some w=>encM setU (cut1 58 w).1 | none=>[])=user∧(match w with | some w=>encM setU ((cut1 58 w).2.getD []) | none=>[])=pass:=by
  unfold whoT2
  by_cases hw:user≠[]∨pass≠[]
  ·rw[if_pos hw]
   refine ⟨some (user++if pass≠[] then 58 :: pass else []),?_,?_⟩
   ·rw[←atSign_app (W:=user++if pass≠[] then 58 :: pass else []) hno64]
    simp[List.append_assoc]
   ·have hu58:(58:UInt8) ∉ user:=fun k=>plain_ne (C.user _ k) (by decide) rfl
    simp only
    by_cases hp:pass=[]
    ·simp only[hp,ne_eq,not_true,if_false,List.append_nil,cut1_no hu58,encM_id C.user]
     simp[encM]
    ·rw[if_pos hp,cut1_app hu58]
     exact ⟨encM_id C.user,encM_id C.pass⟩
  ·rw[if_neg hw]
   simp only[ne_eq,not_or,Decidable.not_not] at hw
   exact ⟨none,by rw[List.nil_append];exact atSign_no hno64,hw.1.symm,hw.2.symm⟩
 obtain ⟨w,w1,w2,w3⟩:=hwho
 unfold hostedM
 simp only[a1,a2,b1,b2,w1,w2,w3,hcut,hpd,path_round C.pathN C.pathS hl]
 cases hostGetM (putH h) with
 | none=>rfl
 | some h' =>
  cases portM (portS sch) (portD p) with
  | none=>rfl
  | some p' =>
   simp only[tail_put C.tl]
   try exact congrArg some (Prod.ext rfl (Prod.ext w2 (Prod.ext w3 rfl)))
theorem put_len_path:(pathM path).length≤(putT sch user pass h p path hq q hf f).length:=by
 unfold putT
 simp only[List.length_append,List.length_cons]
 omega
theorem get_put (C:Ch sch user pass h p path hq q hf f):getM (putT sch user pass h p path hq q hf f)=if 200<(putT sch user pass h p path hq q hf f).length then none else (match hostGetM (putH h),portM (portS sch) (portD p) with
   | some h',some p'=>if fitsM (sch,user,pass,h',p',path,[],hq,q,hf,f,())=true then some (sch,user,pass,h',p',path,[],hq,q,hf,f,()) else none
   | _,_=>none):=by
 unfold getM
 by_cases hl:200<(putT sch user pass h p path hq q hf f).length
 ·rw[if_pos hl,if_pos hl]
 ·rw[if_neg hl,if_neg hl,strip_id (put_vis C)]
  have hl2:(pathM path).length≤200:=Nat.le_trans (put_len_path (sch:=sch) (user:=user) (pass:=pass) (h:=h) (p:=p) (hq:=hq) (q:=q) (hf:=hf) (f:=f)) bo%
  have e:schM (putT sch user pass h p path hq q hf f)=some (sch,47 :: 47 :: (whoT2 user pass++(putH h++(portT p++(pathM path++tailT2 hq q hf f))))):=schM_http sch C.sch _
  rw[e]
  simp only
  rw[hosted_put C hl2]
  cases hostGetM (putH h) with
  | none=>rfl
  | some h' =>
   cases portM (portS sch) (portD p) with
   | none=>rfl
   | some p'=>rfl
end Go.VM
namespace Go.VM
structure OkH (sch user pass:Bs) (h:THost) (p:Int) (path:List Bs) (hq:Bool) (q:Bs) (hf:Bool) (f:Bs):Prop where
 ch:Ch sch user pass h p path hq q hf f
 kind:h.1≠0
 host:hostGetM (putH h)=some h
 port:portM (portS sch) (portD p)=some p
 n12:path.length≤12
 len:(putT sch user pass h p path hq q hf f).length≤200
variable {sch user pass:Bs} {h:THost} {p:Int} {path:List Bs} {o:Bs} {hq:Bool} {q:Bs} {hf:Bool} {f:Bs}
theorem OkH.get (K:OkH sch user pass h p path hq q hf f):getM (putT sch user pass h p path hq q hf f)=some (sch,user,pass,h,p,path,[],hq,q,hf,f,()):=by
 have hf':fitsM (sch,user,pass,h,p,path,[],hq,q,hf,f,())=true:=by
  simp only[fitsM,Bool.and_eq_true,decide_eq_true_eq]
  refine ⟨K.n12,?_⟩
  rw[putM_host K.ch.sch]
  have:=K.len;omega
 rw[get_put K.ch,if_neg (by have:=K.len;omega),K.host,K.port]
 simp only[hf',if_true]
theorem OkH.ok (K:OkH sch user pass h p path hq q hf f):okU (sch,user,pass,h,p,path,[],hq,q,hf,f,())=true:=by
 rw[okU_iff,putM_host K.ch.sch];exact K.get
structure ChO (sch o:Bs) (hq:Bool) (q:Bs) (hf:Bool) (f:Bs):Prop where
 neg:portS sch<0
 sc:∀r,schM (sch++58 :: r)=some (sch,r)
 vs:visS sch
 po:plainS setO o
 o63:(63:UInt8) ∉ o
 o35:(35:UInt8) ∉ o
 tl:ChT hq q hf f
 len:(sch++(58 :: (o++tailT2 hq q hf f))).length≤200
theorem putM_opq {user pass:Bs} {h:THost} {p:Int} {path:List Bs} (hs:portS sch<0) :
  putM (sch,user,pass,h,p,path,o,hq,q,hf,f,())=sch++(58 :: (o++tailT2 hq q hf f)):=by
 unfold putM
 simp only
 rw[if_pos hs]
 rfl
theorem ChO.read (K:ChO sch o hq q hf f):readM sch (o++tailT2 hq q hf f)=some (sch,[],[],hostZ,-1,[],o,hq,q,hf,f,()):=by
 have hP:∀c∈o,([63,35]:Bs).contains c=false:=fun c hc=>by
  have h1:c≠63:=fun e=>K.o63 (e ▸ hc)
  have h2:c≠35:=fun e=>K.o35 (e ▸ hc)
  simp[h1,h2]
 obtain ⟨b1,b2⟩:=at_app (any:=[63,35]) (B:=tailT2 hq q hf f) hP (tailT2_head)
 unfold readM
 rw[if_pos K.neg,b1,b2,encM_id K.po,tail_put K.tl];rfl
theorem ChO.get (K:ChO sch o hq q hf f):getM (sch++(58 :: (o++tailT2 hq q hf f)))=some (sch,[],[],hostZ,-1,[],o,hq,q,hf,f,()):=by
 unfold getM
 rw[if_neg (by have:=K.len;omega),strip_id (visS_app K.vs (visS_cons ⟨by decide,by decide⟩ (visS_app (plainS_vis K.po) (tailT2_vis K.tl)))),K.sc]
 simp only[K.read]
 rw[if_pos]
 simp only[fitsM,Bool.and_eq_true,decide_eq_true_eq]
 refine ⟨by simp,?_⟩
 rw[putM_opq K.neg]
 have:=K.len;omega
theorem ChO.ok (K:ChO sch o hq q hf f):okU (sch,[],[],hostZ,-1,[],o,hq,q,hf,f,())=true:=by
 rw[okU_iff,putM_opq K.neg];exact K.get
end Go.VM
namespace Go.VM
end Go.VM
namespace Go.VM
end Go.VM
namespace Go.VM
open Go.RowKit
theorem split_all (c:UInt8):∀(n:Nat) (l:Bs),l.length≤n→Lib.splitK [c] 0 (Lib.count l [c]) l=cutM c l
 | n,l,hn=>by
  by_cases hc:c∈l
  ·obtain ⟨a,b,rfl,ha⟩:=first_of c l hc
   have hi:Lib.index (a++c :: b) [c]=(a.length:Int):=by
    apply Lib.index_first (by simp)
    ·simp[Lib.occAt]
    ·intro j hj
     have:(a++c :: b).drop j=a.drop j++c :: b:=by rw[List.drop_append_of_le_length bo%]
     simp only[Lib.occAt,this]
     have h2:∃y r,a.drop j=y :: r:=by
      cases h:a.drop j with
      | nil=>rw[List.drop_eq_nil_iff] at h;omega
      | cons y r=>exact ⟨y,r,rfl⟩
     obtain ⟨y,r,h2⟩:=h2
     rw[h2]
     have:y≠c:=fun e=>ha (by
      have:y∈a.drop j:=by rw[h2];simp
      exact e ▸ List.mem_of_mem_drop this)
     simp[List.isPrefixOf,Ne.symm this]
   have hd:(a++c :: b).drop (a.length+1)=b:=by
    rw[←List.drop_drop,List.drop_left];rfl
   rw[Lib.count_hit (by simp) hi,show [c].length=1 from rfl,hd,Nat.add_comm,cutM_app c a b ha]
   unfold Lib.splitK
   rw[hi]
   have:¬(((a.length:Nat):Int) == -1)=true:=by simp
   rw[if_neg this]
   have h3:((a.length:Nat):Int).toNat=a.length:=by omega
   simp only[h3,List.length_singleton,Nat.add_zero,hd]
   have ht:(a++c :: b).take a.length=a:=List.take_left
   cases n with
   | zero=>simp at hn
   | succ n=>rw[ht,split_all c n b (by simp at hn;omega)]
  ·have hi:Lib.index l [c] = -1:=by
    apply Lib.index_none
    intro j _
    simp only[Lib.occAt]
    cases h:l.drop j with
    | nil=>rfl
    | cons y r =>
     have:y≠c:=fun e=>hc (by
      have:y∈l.drop j:=by rw[h];simp
      exact e ▸ List.mem_of_mem_drop this)
     simp[List.isPrefixOf,Ne.symm this]
   rw[Lib.count_miss hi,cutM_none c l hc]
   rfl
theorem mkB_B (s:ByteArray):mkB s.data.toList=s:=rfl
theorem splitB_cut (c:UInt8) (l:Bs):Lib.splitB (mkB [c]) 0 (Lib.countB (mkB l) (mkB [c])) (mkB l)=(cutM c l).map mkB:=by
 have h:=Lib.splitB_data (mkB [c]) 0 (Lib.countB (mkB l) (mkB [c])) (mkB l)
 have h2:Lib.countB (mkB l) (mkB [c])=Lib.count l [c]:=rfl
 rw[show (mkB [c]).data.toList=[c] from rfl,show (mkB l).data.toList=l from rfl,h2,split_all c _ l (Nat.le_refl _)] at h
 rw[h2,←h,List.map_map]
 conv=>lhs;rw[←List.map_id (Lib.splitB _ _ _ _)]
 apply List.map_congr_left
 intro x _
 exact (mkB_B x).symm
theorem cut_cut1 (c:UInt8):∀l:Bs,Lib.cut l [c]=((cut1 c l).1,(cut1 c l).2.getD [],(cut1 c l).2.isSome)
 | l=>by
  have key:∀a b:Bs,c ∉ a→cut1 c (a++c :: b)=(a,some b):=fun a b ha=>by
   induction a with
   | nil=>simp[cut1]
   | cons x a ih =>
    have h1:x≠c:=fun e=>ha (by simp[e])
    have h2:c ∉ a:=fun e=>ha (by simp[e])
    show cut1 c (x :: (a++c :: b))=_
    rw[cut1,if_neg h1,ih h2]
  have none:∀a:Bs,c ∉ a→cut1 c a=(a,none):=fun a ha=>by
   induction a with
   | nil=>rfl
   | cons x a ih =>
    have h1:x≠c:=fun e=>ha (by simp[e])
    have h2:c ∉ a:=fun e=>ha (by simp[e])
    rw[cut1,if_neg h1,ih h2]
  by_cases hc:c∈l
  ·obtain ⟨a,b,rfl,ha⟩:=first_of c l hc
   have hi:Lib.index (a++c :: b) [c]=(a.length:Int):=by
    apply Lib.index_first (by simp)
    ·simp[Lib.occAt]
    ·intro j hj
     have:(a++c :: b).drop j=a.drop j++c :: b:=by rw[List.drop_append_of_le_length bo%]
     simp only[Lib.occAt,this]
     have h2:∃y r,a.drop j=y :: r:=by
      cases h:a.drop j with
      | nil=>rw[List.drop_eq_nil_iff] at h;omega
      | cons y r=>exact ⟨y,r,rfl⟩
     obtain ⟨y,r,h2⟩:=h2
     rw[h2]
     have:y≠c:=fun e=>ha (by
      have:y∈a.drop j:=by rw[h2];simp
      exact e ▸ List.mem_of_mem_drop this)
     simp[List.isPrefixOf,Ne.symm this]
   have hd:(a++c :: b).drop (a.length+1)=b:=by
    rw[←List.drop_drop,List.drop_left];rfl
   rw[key a b ha]
   unfold Lib.cut
   rw[hi,if_pos bo%]
   have h3:((a.length:Nat):Int).toNat=a.length:=by omega
   simp only[h3,List.length_singleton,hd,List.take_left,Option.getD_some,Option.isSome_some]
  ·have hi:Lib.index l [c] = -1:=by
    apply Lib.index_none
    intro j _
    simp only[Lib.occAt]
    cases h:l.drop j with
    | nil=>rfl
    | cons y r =>
     have:y≠c:=fun e=>hc (by
      have:y∈l.drop j:=by rw[h];simp
      exact e ▸ List.mem_of_mem_drop this)
     simp[List.isPrefixOf,Ne.symm this]
   rw[none l hc]
   unfold Lib.cut
   rw[hi]
   rfl
section
variable {P:Program} {Γ:Ctx} {g:Nat}
def Enters (P:Program) (g:Nat):Prop:=∀args w,(callFunc g args).run P w=.ok (.enter g args) w
theorem fnok_flat {sg:Sig} {F:sg.inTy.den→Option sg.outTy.den} (hp:∀x,parsOb 0 sg.ps x=[]) (hr:∀y m,(resTV sg.rs (ioTys sg.ps) y m).2.1=[]) (hi:∀y,ioObs 0 sg.ps y=[])
  (he:Enters P g)
  (H:∀x y,F x=some y→∀(θ:Nat→Value) (S:Nat→Prop) (w:World) (ι:Nat→Value) (Vs:List Value),GlobOk Γ θ S w→(∀b,S b→b<w.heap.size)→All2 (RSV ι θ S w) (parsSV 0 sg.ps x) Vs →
   Calls P g ⟨Vs⟩ w fun e w'=>∃V,e=.returned V∧Below w.heap.size w w'∧∀ι' S' m,RSV ι' θ S' w' (oneOf (resTV sg.rs (ioTys sg.ps) y m).1) V):FnOk P Γ g sg F:=by
 intro x y hF _ θ w ι S Vs base h1 h2 hS hG hA hO hb hj hbase
 refine .inl ⟨he _ _,(H x y hF θ S w ι Vs hG hS hA).mono ?_⟩
 rintro e w' ⟨V,rfl,hB,hV⟩
 refine ⟨V,ι,S,rfl,fun _ h=>h,fun _ h=>.inl h,fun b hb=>Nat.lt_of_lt_of_le (hS b hb) hB.size,h2,fun _ _ _=>rfl,
  ⟨hB.os,hB.tape,hB.output,hB.size,fun k hk _=>hB.block k hk⟩,hV _ _ _,?_,?_,?_⟩
 ·intro n o h;cases (show look ([]:List (Nat×Ob)) n=some o from (congrArg (fun l=>look l n) (hr y base)).symm.trans h)
 ·intro n m o o' b h;cases (show look ([]:List (Nat×Ob)) n=some o from (congrArg (fun l=>look l n) (hr y base)).symm.trans h)
 ·intro n o h;cases (show look ([]:List (Nat×Ob)) n=some o from (congrArg (fun l=>look l n) (hi _)).symm.trans h)
theorem ext_Itoa (he:Enters P g) (hG:∀S w,Γ.wf S w→Lib.TabIs P w "internal/strconv.uint64pow10" .u64 Lib.pow10Tab)
  (hC:∀(n:Int) (h0:-9223372036854775808≤n) (h1:n≤9223372036854775807) (w:World) (htab:Lib.TabIs P w "internal/strconv.uint64pow10" .u64 Lib.pow10Tab),
   Calls P g #[.int .i64 n] w fun e w'=>e=.returned (.string ⟨(Lib.itoa n).toArray⟩)∧∃k os,w'=Go.Sort.grow (w.drewN k) os) :
  FnOk P Γ g ⟨[(.int .i64,0)],[(.str,1)]⟩ x_strconv_Itoa:=by
 refine fnok_flat (fun _=>rfl) (fun _ _=>rfl) (fun _=>rfl) he ?_
 rintro ⟨n,⟨⟩⟩ ⟨s,⟨⟩⟩ hF θ S w ι Vs hGl hS hA
 simp only[x_strconv_Itoa] at hF
 split at hF
 case isFalse=>cases hF
 case isTrue h =>
  obtain rfl:Lib.itoa n=s:=by injection hF with e;injection e
  cases hA with
  | cons a1 a2 =>
   cases a2
   obtain rfl:=a1
   refine (hC n h.1 h.2 w (hG _ _ hGl.1)).mono ?_
   rintro e w' ⟨rfl,k,os,rfl⟩
   exact ⟨_,rfl,Lib.below_grow _ _ (Nat.le_refl _) _ _,fun _ _ _=>rfl⟩
theorem all2_two {α β:Type} {R:α→β→Prop} {a b:α} {l:List β} (h:All2 R [a,b] l):∃x y,l=[x,y]∧R a x∧R b y:=by
 cases h with
 | cons h1 h2 =>
  cases h2 with
  | cons h2 h3=>cases h3;exact ⟨_,_,rfl,h1,h2⟩
theorem all2_three {α β:Type} {R:α→β→Prop} {a b c:α} {l:List β} (h:All2 R [a,b,c] l):∃x y z,l=[x,y,z]∧R a x∧R b y∧R c z:=by
 cases h with
 | cons h1 h2 =>
  obtain ⟨y,z,rfl,h3,h4⟩:=all2_two h2
  exact ⟨_,_,_,rfl,h1,h3,h4⟩
theorem all2_one {α β:Type} {R:α→β→Prop} {a:α} {l:List β} (h:All2 R [a] l):∃x,l=[x]∧R a x:=by
 cases h with
 | cons h1 h2=>cases h2;exact ⟨_,rfl,h1⟩
theorem x_Cut_some {s sep:Bs} {y:Bs×Bs×Bool×Unit} (h:x_strings_Cut (s,sep,())=some y):∃c,sep=[c]∧s.length≤fits∧y=((cut1 c s).1,(cut1 c s).2.getD [],(cut1 c s).2.isSome,()):=by
 unfold x_strings_Cut at h
 split at h
 ·rename_i s0 c _ heq
  cases heq
  split at h
  ·rename_i hl;exact ⟨c,rfl,hl,(Option.some.inj h).symm⟩
  ·cases h
 ·cases h
theorem x_Split_some {s sep:Bs} {y:List Bs×Unit} (h:x_strings_Split (s,sep,())=some y):∃c,sep=[c]∧s.length≤fits∧y=(cutM c s,()):=by
 unfold x_strings_Split at h
 split at h
 ·rename_i s0 c _ heq
  cases heq
  split at h
  ·rename_i hl;exact ⟨c,rfl,hl,(Option.some.inj h).symm⟩
  ·cases h
 ·cases h
theorem ext_Cut {zb:Nat} (he:Enters P g) (hG:∀S w,Γ.wf S w→∃m,w.cell? ⟨zb,0,none⟩=some (.int .i64 m))
  (hC:∀(s sep:ByteArray) (m:Int) (w:World) (hs:s.size<4294967281) (hm:w.cell? ⟨zb,0,none⟩=some (.int .i64 m)),
   Calls P g #[.string s,.string sep] w fun e w'=>e=.returned (.tuple #[.string ⟨(Lib.cut s.data.toList sep.data.toList).1.toArray⟩,.string ⟨(Lib.cut s.data.toList sep.data.toList).2.1.toArray⟩,.bool (Lib.cut s.data.toList sep.data.toList).2.2])∧∃n,w'=w.drewN n) :
  FnOk P Γ g ⟨[(.str,0),(.str,0)],[(.str,1),(.str,1),(.bool,1)]⟩ x_strings_Cut:=by
 refine fnok_flat (fun _=>rfl) (fun _ _=>rfl) (fun _=>rfl) he ?_
 rintro ⟨s,sep,⟨⟩⟩ y hF θ S w ι Vs hGl hS hA
 obtain ⟨c,rfl,hl,rfl⟩:=x_Cut_some hF
 obtain ⟨x,y,rfl,rfl,rfl⟩:=all2_two hA
 obtain ⟨m,hm⟩:=hG _ _ hGl.1
 have hl:s.length≤1073741824:=hl
 refine (hC (mkB s) (mkB [c]) m w (by show s.length<_;omega) hm).mono ?_
 rintro e w' ⟨rfl,n,rfl⟩
 refine ⟨_,rfl,⟨rfl,rfl,rfl,Nat.le_refl _,fun _ _=>rfl⟩,fun ι' S' m=>?_⟩
 have hc:Lib.cut (mkB s).data.toList (mkB [c]).data.toList=_:=cut_cut1 c s
 exact ⟨_,rfl,.cons (congrArg (fun p:Bs×Bs×Bool=>Value.string (mkB p.1)) hc) (.cons (congrArg (fun p:Bs×Bs×Bool=>Value.string (mkB p.2.1)) hc) (.cons (congrArg (fun p:Bs×Bs×Bool=>Value.bool p.2.2) hc) .nil))⟩
theorem rep_strs {θ:Nat→Value} {S:Nat→Prop} {w:World} {xs:List Bs} {V:Value} (h:RepC θ S w (.lst .str) xs [V]):∃p cap,V=.slice p xs.length cap∧xs.length≤cap ∧
  (xs=[]∨∃b o,p=some ⟨b,o,none⟩∧S b∧∀(i:Nat) x,(xs.map mkB)[i]? = some x→w.cell? ⟨b,o+i,none⟩=some (.string x)):=by
 obtain ⟨p,cap,hp,hcap,hx⟩:=h
 obtain rfl:V=.slice p xs.length cap:=by injection hp
 refine ⟨p,cap,rfl,hcap,hx.imp id ?_⟩
 rintro ⟨b,o,rfl,hb,hc⟩
 refine ⟨b,o,rfl,hb,fun j v hv=>?_⟩
 rw[List.getElem?_map,Option.map_eq_some_iff] at hv
 obtain ⟨l,hl,rfl⟩:=hv
 obtain ⟨ws,h1,h2⟩:=hc j l hl
 obtain rfl:=h1
 have:=h2 0 _ rfl
 rwa [show Ty.str.size=1 from rfl,Nat.mul_one,Nat.add_zero] at this
theorem ext_Join (he:Enters P g)
  (h0:∀(a:Option Addr) (c:Nat) (sep:ByteArray) (w:World),Calls P g #[.slice a 0 c,.string sep] w fun e w'=>e=.returned (.string ⟨#[]⟩)∧w'=w)
  (hC:∀(bk o c:Nat) (xs:List ByteArray) (sep:ByteArray) (w:World) (hcells:∀(j:Nat) x,xs[j]? = some x→w.cell? ⟨bk,o+j,none⟩=some (.string x)) (hbk:bk<w.heap.size) (hN:xs.length≤140737488355328) (hcap:xs.length≤c) (hlen:(Lib.join (xs.map (·.data.toList)) sep.data.toList).length≤140737488355328),
   Calls P g #[.slice (some ⟨bk,o,none⟩) xs.length c,.string sep] w fun e w'=>e=.returned (.string ⟨(Lib.join (xs.map (·.data.toList)) sep.data.toList).toArray⟩)∧Below w.heap.size w w') :
  FnOk P Γ g ⟨[(.lst .str,0),(.str,0)],[(.str,1)]⟩ x_strings_Join:=by
 refine fnok_flat (fun _=>rfl) (fun _ _=>rfl) (fun _=>rfl) he ?_
 rintro ⟨xs,sep,⟨⟩⟩ ⟨r,⟨⟩⟩ hF θ S w ι Vs hGl hS hA
 have key:∀(xs:List Bs) (sep r:Bs),x_strings_Join (xs,sep,())=some (r,())→∀V,RepC θ S w (.lst .str) xs [V] →
   Calls P g #[V,.string (mkB sep)] w fun e w'=>e=.returned (.string (mkB r))∧Below w.heap.size w w':=by
  intro xs sep r hF V hV
  simp only[x_strings_Join] at hF
  split at hF
  case isFalse=>cases hF
  case isTrue hl =>
   obtain rfl:Lib.join xs sep=r:=by injection hF with e;injection e
   obtain ⟨p,cap,rfl,hcap,hx⟩:=rep_strs hV
   rcases hx with rfl | ⟨b,o,rfl,hb,hc⟩
   ·refine (h0 p cap (mkB sep) w).mono ?_
    rintro e w' ⟨rfl,rfl⟩
    exact ⟨by rw[Lib.join_nil],.refl _ _⟩
   ·have hm:(xs.map mkB).map (fun x=>x.data.toList)=xs:=by rw[List.map_map];exact List.map_id _
    have hl1:xs.length≤1073741824:=hl.1
    have hl2:(Lib.join xs sep).length≤1073741824:=hl.2
    have:=hC b o cap (xs.map mkB) (mkB sep) w hc (hS b hb) (by simp;omega) (by simpa using hcap) (by rw[hm];show (Lib.join xs sep).length≤_;omega)
    rw[List.length_map,hm] at this
    exact this
 obtain ⟨x,y,rfl,hx,rfl⟩:=all2_two hA
 refine (key xs sep r hF x hx).mono ?_
 rintro e w' ⟨rfl,hB⟩
 exact ⟨_,rfl,hB,fun _ _ _=>rfl⟩
theorem ext_ReplaceAll {zb:Nat} (he:Enters P g) (hG:∀S w,Γ.wf S w→∃m,w.cell? ⟨zb,0,none⟩=some (.int .i64 m))
  (hC:∀(s old new:ByteArray) (m:Int) (w:World) (hs:s.size<4294967281) (hm:w.cell? ⟨zb,0,none⟩=some (.int .i64 m)) (h1:1≤old.size) (hlen:s.size+Lib.countB s old*new.size≤140737488355328),
   Calls P g #[.string s,.string old,.string new] w fun e w'=>e=.returned (.string ⟨(Lib.replaceAll s.data.toList old.data.toList new.data.toList).toArray⟩)∧Below w.heap.size w w') :
  FnOk P Γ g ⟨[(.str,0),(.str,0),(.str,0)],[(.str,1)]⟩ x_strings_ReplaceAll:=by
 refine fnok_flat (fun _=>rfl) (fun _ _=>rfl) (fun _=>rfl) he ?_
 rintro ⟨s,a,b,⟨⟩⟩ ⟨r,⟨⟩⟩ hF θ S w ι Vs hGl hS hA
 simp only[x_strings_ReplaceAll] at hF
 split at hF
 case isFalse=>cases hF
 case isTrue hl =>
  obtain rfl:Lib.replaceAll s a b=r:=by injection hF with e;injection e
  obtain ⟨x,y,z,rfl,rfl,rfl,rfl⟩:=all2_three hA
  obtain ⟨m,hm⟩:=hG _ _ hGl.1
  have hl1:s.length≤1073741824:=hl.1
  have hk:=Lib.countB_mul_le (mkB a) hl.2.1 _ (mkB s) (Nat.le_refl _)
  have hk2:Lib.countB (mkB s) (mkB a)*b.length≤Lib.countB (mkB s) (mkB a)*a.length:=Nat.mul_le_mul_left _ hl.2.2
  have hk3:Lib.countB (mkB s) (mkB a)*a.length≤s.length:=hk
  refine (hC (mkB s) (mkB a) (mkB b) m w (by show s.length<_;omega) hm hl.2.1 (by show s.length+_*b.length≤_;omega)).mono ?_
  rintro e w' ⟨rfl,hB⟩
  exact ⟨_,rfl,hB,fun _ _ _=>rfl⟩
theorem ext_IndexAny (he:Enters P g)
  (hC:∀(s cs:ByteArray) (w:World),s.size<4294967281→2≤cs.size→cs.size≤8→cs.data.toList.all (fun b=>b.toNat<128)=true →
   Calls P g #[.string s,.string cs] w fun e w'=>e=.returned (.int .i64 (Lib.indexAny s.data.toList cs.data.toList))∧Below w.heap.size w w') :
  FnOk P Γ g ⟨[(.str,0),(.str,0)],[(.int .i64,1)]⟩ x_strings_IndexAny:=by
 refine fnok_flat (fun _=>rfl) (fun _ _=>rfl) (fun _=>rfl) he ?_
 rintro ⟨s,a,⟨⟩⟩ ⟨r,⟨⟩⟩ hF θ S w ι Vs hGl hS hA
 simp only[x_strings_IndexAny] at hF
 split at hF
 case isFalse=>cases hF
 case isTrue hl =>
  obtain rfl:Lib.indexAny s a=r:=by injection hF with e;injection e
  obtain ⟨x,y,rfl,rfl,rfl⟩:=all2_two hA
  have hl1:s.length≤1073741824:=hl.1
  refine (hC (mkB s) (mkB a) w (by show s.length<_;omega) hl.2.1 hl.2.2.1 hl.2.2.2).mono ?_
  rintro e w' ⟨rfl,hB⟩
  exact ⟨_,rfl,hB,fun _ _ _=>rfl⟩
theorem fnok_row {ps:List (Ty×Nat)} {e:Ty} {F:(Sig.inTy ⟨ps,[(.lst e,1)]⟩).den→Option (Sig.outTy ⟨ps,[(.lst e,1)]⟩).den} (hp:∀x,parsOb 0 ps x=[]) (hio:ioTys ps=[]) (hi:∀y,ioObs 0 ps y=[])
  (he:Enters P g)
  (H:∀x y,F x=some y→∀(θ:Nat→Value) (S:Nat→Prop) (w:World) (ι:Nat→Value) (Vs:List Value),GlobOk Γ θ S w→(∀b,S b→b<w.heap.size)→All2 (RSV ι θ S w) (parsSV 0 ps x) Vs →
   Calls P g ⟨Vs⟩ w fun en w'=>∃V,en=.returned V∧Below w.heap.size w w'∧V.oneCell'=true∧(∀b,blk V=some b→w.heap.size≤b) ∧
    ∀(ι':Nat→Value) (n:Nat),ι' n=V→ROb ι' θ S w' n (.row e y.1)):FnOk P Γ g ⟨ps,[(.lst e,1)]⟩ F:=by
 intro x y hF _ θ w ι S Vs base h1 h2 hS hG hA hO hb hj hbase
 refine .inl ⟨he _ _,(H x y hF θ S w ι Vs hG hS hA).mono ?_⟩
 rintro en w' ⟨V,rfl,hB,hV1,hVb,hV⟩
 have hob:(resTV [(Ty.lst e,1)] (ioTys ps) y base).2.1=[(base,.row e y.1)]:=rfl
 have hnp:∀n o,look (parsOb 0 ps x) n=some o→False:=fun n o h=>by cases (show look ([]:List (Nat×Ob)) n=some o from (congrArg (fun l=>look l n) (hp x)).symm.trans h)
 refine ⟨V,upd ι base V,S,rfl,fun _ h=>h,fun _ h=>.inl h,fun b hb=>Nat.lt_of_lt_of_le (hS b hb) hB.size,fun m=>by unfold upd;split;exact hV1;exact h2 m,
  fun n o h=>(hnp n o h).elim,⟨hB.os,hB.tape,hB.output,hB.size,fun k hk _=>hB.block k hk⟩,?_,?_,?_,?_⟩
 ·show V=upd ι base V base
  rw[upd_same]
 ·intro n o h
  replace h:look [(base,Ob.row e y.1)] n=some o:=h
  rw[look_cons] at h
  split at h
  ·rename_i hn
   subst hn
   obtain rfl:=Option.some.inj h
   refine ⟨hV _ _ (upd_same _ _ _),fun b hb=>?_⟩
   rw[upd_same] at hb
   have:=hVb b hb
   exact ⟨fun hs=>by have:=hS b hs;omega,this⟩
  ·cases h
 ·intro n m o o' b h h'
  replace h:look [(base,Ob.row e y.1)] n=some o:=h
  replace h':look [(base,Ob.row e y.1)] m=some o':=h'
  rw[look_cons] at h h'
  split at h
  ·split at h'
   ·rename_i a b;exact fun _ _=>a.symm.trans b
   ·cases h'
  ·cases h
 ·intro n o h;cases (show look ([]:List (Nat×Ob)) n=some o from (congrArg (fun l=>look l n) (hi _)).symm.trans h)
theorem row_strs {θ:Nat→Value} {S:Nat→Prop} {w:World} {ι:Nat→Value} {n:Nat} (b o cap:Nat) (xs:List Bs) (h:ι n=.slice (some ⟨b,o,none⟩) xs.length cap) (hc:xs.length≤cap)
  (h1:∀k,k<cap→(∃v,w.cell? ⟨b,o+k,none⟩=some v)∧w.frozen? ⟨b,o+k,none⟩=false)
  (h2:∀i x,xs[i]? = some x→w.cell? ⟨b,o+i,none⟩=some (.string (mkB x))):ROb ι θ S w n (.row .str xs):=by
 refine ⟨Nat.one_pos,_,cap,h,hc,.inr ⟨b,o,rfl,fun k hk=>h1 k (by simpa [Ty.size] using hk),fun i x hx=>⟨_,rfl,fun j v hv=>?_⟩⟩⟩
 cases j with
 | zero=>cases hv;rw[show Ty.str.size=1 from rfl,Nat.mul_one,Nat.add_zero];exact h2 i x hx
 | succ j=>cases hv
theorem ext_Split {zb:Nat} (he:Enters P g) (hG:∀S w,Γ.wf S w→∃m,w.cell? ⟨zb,0,none⟩=some (.int .i64 m)) {t:Nat}
  (hC:∀(s sep:ByteArray) (m:Int) (w:World) (hs:s.size<4294967281) (hm:w.cell? ⟨zb,0,none⟩=some (.int .i64 m)) (h1:1≤sep.size),
   Calls P g #[.string s,.string sep] w fun e w' =>
    e=.returned (.slice (some ⟨w.heap.size,0,none⟩) (Lib.countB s sep+1) (Lib.countB s sep+1))∧w'=w.alloc (.cells ((Lib.splitB sep 0 (Lib.countB s sep) s).map Value.string).toArray t)) :
  FnOk P Γ g ⟨[(.str,0),(.str,0)],[(.lst .str,1)]⟩ x_strings_Split:=by
 refine fnok_row (fun _=>rfl) rfl (fun _=>rfl) he ?_
 rintro ⟨s0,sep,⟨⟩⟩ y hF θ S w ι Vs hGl hS hA
 have key:∀(s0:Bs) (c:UInt8),s0.length≤1073741824→Calls P g #[.string (mkB s0),.string (mkB [c])] w fun e w'=>∃V,e=.returned V∧Below w.heap.size w w'∧V.oneCell'=true∧(∀b,blk V=some b→w.heap.size≤b) ∧
   ∀(ι':Nat→Value) (n:Nat),ι' n=V→ROb ι' θ S w' n (.row .str (cutM c s0)):=by
  intro s0 c hl
  obtain ⟨m,hm⟩:=hG _ _ hGl.1
  refine (hC (mkB s0) (mkB [c]) m w (by show s0.length<_;omega) hm (Nat.le_refl _)).mono ?_
  rintro e w' ⟨rfl,rfl⟩
  have hlen:=Lib.splitB_all (mkB [c]) (Nat.le_refl _) 0 _ (mkB s0) rfl
  rw[splitB_cut,List.length_map] at hlen
  rw[splitB_cut,←hlen]
  have hh:∀o,(w.alloc o).heap[w.heap.size]? = some o:=fun o=>heap_alloc_new w o
  refine ⟨_,rfl,(Below.refl _ _).alloc (Nat.le_refl _) _,rfl,fun b hb=>?_,fun ι' n hn=>row_strs w.heap.size 0 _ _ hn (Nat.le_refl _) (fun k hk=>?_) (fun i x hx=>?_)⟩
  ·have h0:(cutM c s0).length≠0:=by omega
   simp only[blk,if_neg h0,Option.some.injEq] at hb
   omega
  ·rw[Nat.zero_add]
   refine ⟨⟨.string (mkB ((cutM c s0)[k]'hk)),?_⟩,?_⟩
   ·rw[Lib.cell_of_heap (hh _)];simp[hk]
   ·exact Lib.frozen_of_heap (hh _) k
  ·rw[Nat.zero_add]
   obtain ⟨hi,rfl⟩:=List.getElem?_eq_some_iff.1 hx
   rw[Lib.cell_of_heap (hh _)];simp[hi]
 obtain ⟨c,rfl,hl,rfl⟩:=x_Split_some hF
 obtain ⟨x,y,rfl,rfl,rfl⟩:=all2_two hA
 exact key s0 c hl
theorem EntOk.lib {sg:Sig} {F:sg.inTy.den→Option sg.outTy.den} {fn:Func} {H:List (Nat×List Nat×List LV)} (h:FnOk P Γ g sg F):EntOk P Γ g ⟨sg,some F,fn,H⟩ :=
 ⟨fun h=>(by cases h),fun F' h'=>(by cases h';exact h)⟩
theorem calls_flat {sg:Sig} {F:sg.inTy.den→Option sg.outTy.den} (hk:FnOk P Γ g sg F) (he:Enters P g) {x:sg.inTy.den} {y:sg.outTy.den} (hF:F x=some y) (hok:sg.ok=true) (hp:parsOb 0 sg.ps x=[])
  {θ ι:Nat→Value} {S:Nat→Prop} {w:World} {Vs:List Value} (h1:∀n,(θ n).oneCell'=true) (h2:∀n,(ι n).oneCell'=true) (hS:∀b,S b→b<w.heap.size) (hG:GlobOk Γ θ S w)
  (hA:All2 (RSV ι θ S w) (parsSV 0 sg.ps x) Vs) (hb:0+(resTV sg.rs (ioTys sg.ps) y 0).2.1.length≤parBase) :
  Calls P g ⟨Vs⟩ w fun e w'=>∃V ι' S',e=.returned V∧Below w.heap.size w w'∧RSV ι' θ S' w' (oneOf (resTV sg.rs (ioTys sg.ps) y 0).1) V:=by
 have hn:∀n o,look (parsOb 0 sg.ps x) n=some o→False:=fun n o h=>by cases (show look ([]:List (Nat×Ob)) n=some o from (congrArg (fun l=>look l n) hp).symm.trans h)
 have key:=hk x y hF hok θ w ι S Vs 0 h1 h2 hS hG hA (fun n o h=>(hn n o h).elim) (fun n o b h=>(hn n o h).elim) (fun n m o o' b h=>(hn n o h).elim) hb
 have hen:=he ⟨Vs⟩ w
 rcases key with ⟨_,hc⟩ | ⟨V,w',hv,_⟩ | ⟨row,l,w',hv,_⟩
 ·refine hc.mono ?_
  rintro e w' ⟨V,ι',S',rfl,_,_,_,_,_,hK,hR,_⟩
  exact ⟨V,ι',S',rfl,⟨hK.os,hK.tape,hK.output,hK.size,fun k hk=>hK.block k hk (by rintro ⟨n,o,h,_⟩;exact hn n o h)⟩,hR⟩
 ·rw[hen] at hv;cases hv
 ·rw[hen] at hv;cases hv
end
def WF (zb:Nat) (P:Program) (S:Nat→Prop) (w:World):Prop:=S zb∧(∃m,w.cell? ⟨zb,0,none⟩=some (.int .i64 m))∧(∃g,P.globalNamed "internal/strconv.uint64pow10" = some g∧S g)∧Lib.TabIs P w "internal/strconv.uint64pow10" .u64 Lib.pow10Tab
theorem WF_mono (zb:Nat) (P:Program):∀(S S':Nat→Prop) (w w':World),(∀b,S b→S' b)→(∀b,S b→w'.heap[b]? = w.heap[b]?)→WF zb P S w→WF zb P S' w':=by
 rintro S S' w w' hs hw ⟨h0,⟨m,hm⟩,⟨g,hg,hS⟩,ht⟩
 refine ⟨hs zb h0,⟨m,by rw[World.cell?_of_block (w:=w) (hw zb h0)];exact hm⟩,⟨g,hg,hs g hS⟩,?_⟩
 unfold Lib.TabIs World.var? at ht ⊢
 rw[hg] at ht ⊢
 simp only[Option.bind_some] at ht ⊢
 rw[hw g hS]
 exact ht
theorem WF.len {zb:Nat} {P:Program} {S:Nat→Prop} {w:World} (h:WF zb P S w):∃m,w.cell? ⟨zb,0,none⟩=some (.int .i64 m):=h.2.1
theorem WF.tab {zb:Nat} {P:Program} {S:Nat→Prop} {w:World} (h:WF zb P S w):Lib.TabIs P w "internal/strconv.uint64pow10" .u64 Lib.pow10Tab:=h.2.2.2
end Go.VM
namespace Go.VM
open Go.RowKit Go.ChangeShapes Go.WideShapes
def fine:Bool→Ty→Bool
 | true,.unit=>true
 | _,.pair a b=>fine false a&&fine true b
 | false,.int _=>true
 | false,.bool=>true
 | false,.str=>true
 | false,.lst e=>fine false e&&Nat.blt 0 e.size
 | _,_=>false
def Wf:(τ:Ty)→τ.den→Prop
 | .int k,n=>(Lit.int k n).wf=true
 | .str,s=>s.length≤maxLen
 | .lst e,xs=>xs.length≤maxLen∧∀x∈xs,Wf e x
 | .pair a b,x=>Wf a x.1∧Wf b x.2
 | _,_=>True
theorem list_of {α:Type} (n:Nat) (R:Nat→α→Prop) (h:∀i,i<n→∃a,R i a):∃l:List α,l.length=n∧∀i a,l[i]? = some a→R i a:=by
 induction n with
 | zero=>exact ⟨[],rfl,fun i a h=>by simp at h⟩
 | succ n ih =>
  obtain ⟨l,hl,hr⟩:=ih (fun i hi=>h i bo%)
  obtain ⟨a,ha⟩:=h n bo%
  refine ⟨l++[a],by simp[hl],fun i b hb=>?_⟩
  rcases Nat.lt_or_ge i n with hi | hi
  ·rw[List.getElem?_append_left bo%] at hb
   exact hr i b hb
  ·rw[List.getElem?_append_right bo%] at hb
   have hin:i=n:=by
    have:=(List.getElem?_eq_some_iff.1 hb).1
    simp at this
    omega
   subst hin
   rw[hl,Nat.sub_self] at hb
   obtain rfl:=Option.some.inj hb
   exact ha
section
variable {H:Type} {enc:TypeId×Value→H} {P:Program} {tys:List (Nat×Ty)} {w:World} {base:Nat} {spare:Nat→Bool} {held:Bool} {θ:Nat→Value}
theorem cells_at {a:Addr} {n:Nat} {ws:List Value} {base:Nat} (h:w.cells? base a n=some ws):∀j v,ws[j]? = some v→w.cell? (a.add j)=some v:=by
 intro j v hv
 unfold World.cells? at h
 split at h
 ·have hj:j<n:=by
   have h1:=mapM_some_length h
   have h2:=(List.getElem?_eq_some_iff.1 hv).1
   simp at h1
   omega
  have:=mapM_some_get h j j (by simp[hj])
  rw[this,hv]
 ·cases h
def Opens (enc:TypeId×Value→H) (P:Program) (tys:List (Nat×Ty)) (w:World) (base:Nat) (spare:Nat→Bool) (held:Bool) (θ:Nat→Value) (τ:Ty):Prop :=
 ∀t,look tys t=some τ→∀fuel cs x,DataW.trod enc P w base spare held fuel t cs=some x→∃a,RepC θ (fun b=>b<w.heap.size) w τ a cs∧Wf τ a
def Fields (enc:TypeId×Value→H) (P:Program) (tys:List (Nat×Ty)) (w:World) (base:Nat) (spare:Nat→Bool) (held:Bool) (θ:Nat→Value) (τ:Ty):Prop :=
 ∀(cs:List Value) (off:Nat),(∀i o σ,τ.field i=some (o,σ)→∃t n x,look tys t=some σ∧DataW.trod enc P w base spare held n t ((cs.drop (off+o)).take σ.size)=some x) →
  ∃a,RepC θ (fun b=>b<w.heap.size) w τ a ((cs.drop off).take τ.size)∧Wf τ a
theorem opens_all (hT:TyOk P tys):∀τ:Ty,(fine false τ=true→Opens enc P tys w base spare held θ τ)∧(fine true τ=true→Fields enc P tys w base spare held θ τ):=by
 intro τ
 induction τ with
 | unit=>exact ⟨fun h=>(by cases h),fun _ cs off _=>⟨(),by simp[RepC,Ty.size],trivial⟩⟩
 | int k =>
  refine ⟨fun _ t ht fuel cs x h=>?_,fun h=>by cases h⟩
  obtain ⟨d,hd,hD⟩:=(hT t _ ht).desc
  cases hD with
  | int =>
   obtain ⟨n,rfl,_,hw⟩:=DataW.trod_int hd h
   exact ⟨n,rfl,hw⟩
  | struct _ _ _ h0=>cases h0
 | bool =>
  refine ⟨fun _ t ht fuel cs x h=>?_,fun h=>by cases h⟩
  obtain ⟨d,hd,hD⟩:=(hT t _ ht).desc
  cases hD with
  | bool =>
   obtain ⟨b,rfl,_⟩:=DataW.trod_bool hd h
   exact ⟨b,rfl,trivial⟩
  | struct _ _ _ h0=>cases h0
 | str =>
  refine ⟨fun _ t ht fuel cs x h=>?_,fun h=>by cases h⟩
  obtain ⟨d,hd,hD⟩:=(hT t _ ht).desc
  cases hD with
  | str =>
   obtain ⟨s,rfl,_,hs⟩:=DataW.trod_string hd h
   exact ⟨s.data.toList,rfl,hs⟩
  | struct _ _ _ h0=>cases h0
 | opq=>exact ⟨fun h=>(by cases h),fun h=>(by cases h)⟩
 | adr t _=>exact ⟨fun h=>(by cases h),fun h=>(by cases h)⟩
 | err=>exact ⟨fun h=>(by cases h),fun h=>(by cases h)⟩
 | rd e _=>exact ⟨fun h=>(by cases h),fun h=>(by cases h)⟩
 | lst e ih =>
  refine ⟨fun hf t ht fuel cs x h=>?_,fun h=>by cases h⟩
  simp only[fine,Bool.and_eq_true,Nat.blt_eq] at hf
  obtain ⟨d,hd,hD⟩:=(hT t _ ht).desc
  cases hD with
  | struct _ _ _ h0=>cases h0
  | lst _ te hte =>
   have hsz:P.cellsOf te=e.size:=by
    obtain ⟨i,z,vs,h1,h2,_⟩:=(hT te _ hte).info
    simp[Program.cellsOf,h1,h2]
   have he:=ih.1 hf.1
   rcases DataW.trod_slice hd h with ⟨rfl,_⟩ | ⟨a,len,cap,elems,rest,n,_,rfl,rfl,hb,hl,hm,hlen,hel,hsp,hns⟩
   ·exact ⟨[],⟨none,0,rfl,Nat.le_refl _,.inl rfl⟩,by simp[maxLen],fun a ha=>by cases ha⟩
   ·have each:∀i,i<len→∃y,(∃c,w.cells? base (a.add (i*e.size)) e.size=some c∧RepC θ (fun b=>b<w.heap.size) w e y c)∧Wf e y:=by
     intro i hi
     have h1:=hel i hi
     have h2:elems[i]? = some (elems[i]'bo%):=List.getElem?_eq_getElem _
     rw[h2,Option.bind_eq_some_iff] at h1
     obtain ⟨c,hc1,hc2⟩:=h1
     obtain ⟨y,hy,hg⟩:=he te hte _ _ _ hc2
     rw[hsz] at hc1
     exact ⟨y,⟨c,hc1,hy⟩,hg⟩
    obtain ⟨l,hl1,hl2⟩:=list_of len _ each
    subst hl1
    refine ⟨l,⟨some a,cap,rfl,hl,?_⟩,by show l.length≤maxLen;omega,fun y hy=>?_⟩
    ·cases l with
     | nil=>exact .inl rfl
     | cons y0 l0 =>
      obtain ⟨⟨c0,hc0,hR0⟩,_⟩:=hl2 0 y0 rfl
      have h1:c0.length=e.size:=hR0.len
      obtain ⟨v0,hv0⟩:∃v,c0[0]? = some v:=⟨c0[0]'bo%,List.getElem?_eq_getElem _⟩
      have h2:=cells_at hc0 0 v0 hv0
      obtain ⟨b,o,s⟩:=a
      have hs:s=none:=by
       cases s with
       | none=>rfl
       | some z =>
        simp only[Addr.add,if_true] at h2
        unfold World.cell? at h2
        split at h2 <;> simp at h2
      subst hs
      have hadd:∀o i,(⟨b,o,none⟩:Addr).add i=⟨b,o+i,none⟩:=fun o i=>by unfold Addr.add;split <;> simp_all
      rw[hadd,hadd] at h2
      refine .inr ⟨b,o,rfl,World.block_lt_of_cell? (h:=h2),fun i x hx=>?_⟩
      obtain ⟨⟨c,hc,hR⟩,_⟩:=hl2 i x hx
      refine ⟨c,hR,fun j v hv=>?_⟩
      have h3:=cells_at hc j v hv
      rw[hadd,hadd] at h3
      exact h3
    ·obtain ⟨i,hi⟩:=List.getElem?_of_mem hy
     exact (hl2 i y hi).2
 | pair a b iha ihb =>
  have hF:fine false a=true→fine true b=true→Fields enc P tys w base spare held θ (.pair a b):=by
   intro ha hb cs off hf
   obtain ⟨t,n,x,h1,h2⟩:=hf 0 0 a rfl
   obtain ⟨y,hy,wy⟩:=iha.1 ha t h1 n _ x h2
   obtain ⟨z,hz,wz⟩:=ihb.2 hb cs (off+a.size) fun i o σ hi=>by
    have:=hf (i+1) (a.size+o) σ (by simp[Ty.field,hi])
    rwa [show off+(a.size+o)=off+a.size+o by omega] at this
   refine ⟨(y,z),⟨_,_,?_,hy,hz⟩,wy,wz⟩
   rw[Nat.add_zero]
   show List.take (a.size+b.size) _=_
   rw[List.take_add,List.drop_drop]
  refine ⟨fun hf t ht fuel cs x h=>?_,fun hf=>?_⟩
  ·simp only[fine,Bool.and_eq_true] at hf
   obtain ⟨d,hd,hD⟩:=(hT t _ ht).desc
   have hsz:P.cellsOf t=(Ty.pair a b).size:=by
    obtain ⟨i,z,vs,h1,h2,_⟩:=(hT t _ ht).info
    simp[Program.cellsOf,h1,h2]
   cases hD with
   | struct _ fs pl h0 h1 h2 h3 =>
    obtain ⟨xs,n,_,_,hlen,hxl,hx⟩:=DataW.trod_struct hd h
    obtain ⟨y,hy,wy⟩:=hF hf.1 hf.2 cs 0 fun i o σ hi=>by
     obtain ⟨f,hf1,hf2,hf3⟩:=h1 i o σ hi
     have h4:=hx i f hf1
     have h5:xs[i]? = some (xs[i]'(by have:=(Array.getElem?_eq_some_iff.1 hf1).1;omega)):=List.getElem?_eq_getElem _
     have h6:P.cellsOf f.type=σ.size:=by
      obtain ⟨i,z,vs,h1,h2,_⟩:=(hT _ _ hf3).info
      simp[Program.cellsOf,h1,h2]
     rw[h5,h6,hf2] at h4
     exact ⟨f.type,n,_,hf3,by rw[Nat.zero_add];exact h4⟩
    refine ⟨y,?_,wy⟩
    rwa [List.drop_zero,←hsz,←hlen,List.take_length] at hy
  ·simp only[fine,Bool.and_eq_true] at hf
   exact hF hf.1 hf.2
end
theorem wf_all {zb:Nat} {P:Program} {w:World} (h0:∃m,w.cell? ⟨zb,0,none⟩=some (.int .i64 m)) {g:Nat} (hg:P.globalNamed "internal/strconv.uint64pow10" = some g)
  (ht:Lib.TabIs P w "internal/strconv.uint64pow10" .u64 Lib.pow10Tab):WF zb P (fun b=>b<w.heap.size) w:=by
 obtain ⟨m,hm⟩:=h0
 refine ⟨World.block_lt_of_cell? (h:=hm),⟨m,hm⟩,⟨g,hg,?_⟩,ht⟩
 unfold Lib.TabIs World.var? at ht
 rw[hg] at ht
 simp only[Option.bind_some] at ht
 show g<w.heap.size
 rcases Nat.lt_or_ge g w.heap.size with h | h
 ·exact h
 ·rw[Array.getElem?_eq_none h] at ht;cases ht
theorem tab_of_reads {P:Program} {W:World} {name:String} {k:IntKind} {zs:List Int} {g:Nat} {t e:TypeId} {n:Nat} (hg:P.globalNamed name=some g) (hty:(P.globals[g]?).map (·.type)=some t) (ht:P.underlying t=some (.array n e)) (he:P.underlying e=some (.int k)) (hce:P.cellsOf e=1) (hct:P.cellsOf t=n)
  (h:Lib.VarReads P W name (Lib.tabData k zs)):Lib.TabIs P W name k zs:=by
 obtain ⟨g',t',cs,fuel,p,hg',ht',hvar,hd⟩:=h
 obtain rfl:=Option.some.inj (hg.symm.trans hg')
 obtain rfl:=Option.some.inj (hty.symm.trans ht')
 unfold Lib.TabIs
 rw[hvar,←Lib.cells_of_tab ht he hce hct hd]
theorem sets_of_reads {P:Program} {W:World} {θ:Nat→Value} {name:String} {g:Nat} {t e:TypeId} {L:List Bs} (hg:P.globalNamed name=some g) (hty:(P.globals[g]?).map (·.type)=some t) (ht:P.underlying t=some (.slice e)) (he:P.underlying e=some .string) (hce:P.cellsOf e=1)
  (h:Lib.VarReads P W name (.slice (L.map fun s=>.lit (.string s)) [])):g<W.heap.size∧∃ws,RepC θ (fun b=>b<W.heap.size) W (.lst .str) L ws∧CellsAt W g 0 ws:=by
 obtain ⟨g',t',cs,fuel,p,hg',ht',hvar,hd⟩:=h
 obtain rfl:=Option.some.inj (hg.symm.trans hg')
 obtain rfl:=Option.some.inj (hty.symm.trans ht')
 rcases DataW.trod_slice ht hd with ⟨_,hx⟩ | ⟨a,len,cap,elems,rest,n,_,hcs,hx,hb,hl,hm,hlen,hel,_,_⟩
 ·cases hx
 ·simp only[Prod.mk.injEq,DataW.slice.injEq] at hx
  obtain ⟨⟨hx1,_⟩,_⟩:=hx
  have hll:len=L.length:=by rw[←hlen,←List.length_map (f:=(·.1)),←hx1,List.length_map]
  have hc0:=World.var?_cell hg hvar 0
  have hcs0:cs[0]? = some (.slice (some a) len cap):=by rw[←Array.getElem?_toList,hcs];rfl
  subst hll
  have hcell:=hc0.trans hcs0
  have each:∀(j:Nat) s,L[j]? = some s→W.cell? (a.add j)=some (.string (mkB s)):=by
   intro j s hj
   have hjl:j<L.length:=(List.getElem?_eq_some_iff.1 hj).1
   have h1:=hel j hjl
   obtain ⟨y,hy⟩:∃y,elems[j]? = some y:=⟨elems[j],List.getElem?_eq_getElem _⟩
   rw[hy,Option.bind_eq_some_iff] at h1
   obtain ⟨c,hc1,hc2⟩:=h1
   obtain ⟨s',rfl,hs',_⟩:=DataW.trod_string he hc2
   have h2:(L.map fun s=>(DataW.lit (.string s):DataW Unit))[j]? = some y.1:=by rw[hx1,List.getElem?_map,hy];rfl
   rw[List.getElem?_map,hj,hs'] at h2
   simp only[Option.map_some,Option.some.injEq,DataW.lit.injEq,Lit.string.injEq] at h2
   subst h2
   have h3:=cells_at hc1 0 _ rfl
   rw[hce,Nat.mul_one] at h3
   have h4:(a.add j).add 0=a.add j:=by simp[Addr.add]
   rw[h4] at h3
   exact h3
  refine ⟨World.block_lt_of_cell? (h:=hcell),[.slice (some a) L.length cap],⟨some a,cap,rfl,hl,?_⟩,fun j v hv=>?_⟩
  ·cases L with
   | nil=>exact .inl rfl
   | cons y0 l0 =>
    have h2:=each 0 y0 rfl
    obtain ⟨b,o,s⟩:=a
    have hs:s=none:=by
     cases s with
     | none=>rfl
     | some z =>
      simp only[Addr.add,if_true] at h2
      unfold World.cell? at h2
      split at h2 <;> simp at h2
    subst hs
    have hadd:∀o i,(⟨b,o,none⟩:Addr).add i=⟨b,o+i,none⟩:=fun o i=>by unfold Addr.add;split <;> simp_all
    rw[hadd] at h2
    refine .inr ⟨b,o,rfl,World.block_lt_of_cell? (h:=h2),fun i x hx=>⟨_,rfl,fun j v hv=>?_⟩⟩
    cases j with
    | zero =>
     cases hv
     have h3:=each i x hx
     rw[hadd] at h3
     rw[show Ty.str.size=1 from rfl,Nat.mul_one,Nat.add_zero]
     exact h3
    | succ j=>cases hv
  ·cases j with
   | zero=>cases hv;exact hcell
   | succ j=>cases hv
end Go.VM
namespace Go.VM
end Go.VM
namespace Go.VM
open Go
theorem idxM_all {α:Type} {p:α→Option Bool} {f:α→Bool}:∀ {xs:List α},(∀z∈xs,p z=some (f z))→idxM p xs=some (xs.findIdx? f)
 | [],_=>rfl
 | x :: xs,h=>by
  have h1:=h x (by simp)
  have h2:=idxM_all (xs:=xs) fun z hz=>h z (by simp[hz])
  simp only[idxM,h1,h2,List.findIdx?_cons]
  cases f x with
  | true=>rfl
  | false=>cases xs.findIdx? f <;> rfl
def oneE (e:TEntry):Bool:=decide (0≤e.1∧e.1≤60)&&(okU e.2.1&&(decide (0≤e.2.2.1∧e.2.2.1≤9999)&&(decide (0≤e.2.2.2.1∧e.2.2.2.1≤9999)&&decide (e.2.2.2.2.1.length≤20))))
structure PreH (l:List TEntry):Prop where
 one:∀e∈l,oneE e=true
 up:l.Pairwise fun a b=>a.1<b.1
 key:l.Pairwise fun a b=>a.2.2.2.1≠b.2.2.2.1
theorem PreH.sub {A l:List TEntry} (h:PreH l) (s:A.Sublist l):PreH A:=⟨fun e he=>h.one e (s.subset he),h.up.sublist s,h.key.sublist s⟩
theorem PreH.take {l:List TEntry} (h:PreH l) (i:Nat):PreH (l.take i):=h.sub (List.take_sublist _ _)
theorem take_snoc {α:Type} {l:List α} {i:Nat} {e:α} (h:l[i]? = some e):l.take (i+1)=l.take i++[e]:=by
 obtain ⟨hi,rfl⟩:=List.getElem?_eq_some_iff.1 h
 exact List.take_succ_eq_append_getElem hi
theorem mem_take {α:Type} {l:List α} {i:Nat} {a:α}:a∈l.take i↔∃j,j<i∧l[j]? = some a:=by
 rw[List.mem_iff_getElem?]
 constructor
 ·rintro ⟨j,hj⟩
  rw[List.getElem?_take] at hj
  split at hj
  ·exact ⟨j,by assumption,hj⟩
  ·cases hj
 ·rintro ⟨j,h1,h2⟩
  exact ⟨j,by rw[List.getElem?_take,if_pos h1];exact h2⟩
def cutH (l:List TEntry) (s:Int):List TEntry:=l.takeWhile fun e=>decide (e.1≤s)
theorem PreH.cut {l:List TEntry} (h:PreH l) (s:Int):PreH (cutH l s):=h.sub (List.takeWhile_sublist _)
section near
variable (q:TEntry→Bool) (l:List TEntry) (k:Nat)
variable {q l k}
end near
end Go.VM
namespace Go.VM
open Go
def nameOk (s:Bs):Bool:=isNameM s && !endsM s
def domM (h d:Bs):Bool:=decide (h≠[])&&(decide (d≠[])&&(decide (h=d)||(nameOk h&&(46 :: d).isSuffixOf h)))
def tokC (c:UInt8):Bool:=decide (33≤c.toNat∧c.toNat≤126) && !([59,44,61,34]:Bs).contains c
def tokM (s:Bs):Bool:=s.all tokC&&decide (s.length≤20)
def hostP:Bs:=[95,95,72,111,115,116,45]
def secP:Bs:=[95,95,83,101,99,117,114,101,45]
def prefM (c:TCookie):Bool:=if hostP.isPrefixOf c.1=true then c.2.2.2.2.2.2.1&&(c.2.2.2.1&&decide (c.2.2.2.2.1=[47])) else if secP.isPrefixOf c.1=true then c.2.2.2.2.2.2.1 else true
def homeM (c:TCookie):Bool:=nameOk c.2.2.1||(c.2.2.2.1&&isFourM c.2.2.1)
def okCookie (c:TCookie):Bool:=homeM c&&(tokM c.1&&(decide (c.1≠[])&&(tokM c.2.1&&(decide (1≤c.2.2.2.2.1.length∧c.2.2.2.2.1.length≤200)&&(decide (c.2.2.2.2.1.head? = some 47)&&(prefM c&&(decide (0≤c.2.2.2.2.2.1∧c.2.2.2.2.2.1≤2000001)&&(decide (0≤c.2.2.2.2.2.2.2.2.1∧c.2.2.2.2.2.2.2.2.1≤1000000)&&(decide (0≤c.2.2.2.2.2.2.2.1∧c.2.2.2.2.2.2.2.1≤2)&&(decide (c.2.2.2.2.2.2.2.1≠0)||c.2.2.2.2.2.2.1))))))))))
def overM (c:TCookie) (now:Int):Bool:=decide (c.2.2.2.2.2.1≠0∧c.2.2.2.2.2.1-1≤now)
def twin (a b:TCookie):Bool:=decide (a.1=b.1)&&(decide (a.2.2.1=b.2.2.1)&&(decide (a.2.2.2.1=b.2.2.2.1)&&decide (a.2.2.2.2.1=b.2.2.2.2.1)))
theorem twin_comm (a b:TCookie):twin a b=twin b a:=by
 unfold twin
 rw[Bool.eq_iff_iff]
 simp only[Bool.and_eq_true,decide_eq_true_eq]
 constructor <;> rintro ⟨h1,h2,h3,h4⟩ <;> exact ⟨h1.symm,h2.symm,h3.symm,h4.symm⟩
structure PreJ (l:List TCookie):Prop where
 one:∀c∈l,okCookie c=true
 two:l.Pairwise fun a b=>twin a b=false
noncomputable def okJar (l:List TCookie):Bool:=@decide (PreJ l∧l.length≤10) (Classical.propDecidable _)
theorem okJar_iff (l:List TCookie):okJar l=true↔PreJ l∧l.length≤10:=by unfold okJar;exact @decide_eq_true_iff _ (Classical.propDecidable _)
theorem okJar_false (l:List TCookie):okJar l=false↔¬(PreJ l∧l.length≤10):=by rw[←okJar_iff];simp
theorem PreJ.sub {A l:List TCookie} (h:PreJ l) (s:A.Sublist l):PreJ A:=⟨fun e he=>h.one e (s.subset he),h.two.sublist s⟩
theorem preJ_snoc {A:List TCookie} {e:TCookie}:PreJ (A++[e])↔PreJ A∧okCookie e=true∧∀a∈A,twin a e=false:=by
 constructor
 ·intro h
  have h2:=List.pairwise_append.1 h.two
  exact ⟨⟨fun e he=>h.one e (List.mem_append_left _ he),h2.1⟩,h.one e (by simp),fun a ha=>h2.2.2 a ha e (by simp)⟩
 ·rintro ⟨h1,h2,h3⟩
  refine ⟨fun x hx=>?_,List.pairwise_append.2 ⟨h1.two,List.pairwise_singleton _ _,fun a ha b hb=>?_⟩⟩
  ·rcases List.mem_append.1 hx with hx | hx
   ·exact h1.one x hx
   ·rw[List.mem_singleton.1 hx];exact h2
  ·rw[List.mem_singleton.1 hb];exact h3 a ha
theorem preJ_next {l:List TCookie} {i:Nat} {e:TCookie} (h:l[i]? = some e) (P:PreJ (l.take i)):PreJ (l.take (i+1))↔okCookie e=true∧∀a∈l.take i,twin a e=false:=by
 rw[take_snoc h,preJ_snoc];simp[P]
end Go.VM
namespace Go.VM
theorem idxM_hit {α:Type} {p:α→Option Bool}:∀ {xs:List α} {i:Option Nat},idxM p xs=some i→∀j z,xs[j]? = some z→(∀n,i=some n→j≤n)→∃b,p z=some b∧(b=true↔i=some j)
 | [],_,_,j,z,hz,_=>by simp at hz
 | x :: xs,i,h,j,z,hz,hj=>by
  simp only[idxM] at h
  split at h
  ·cases h
  ·rename_i hx
   cases h
   have:j=0:=by have:=hj 0 rfl;omega
   subst this
   simp at hz;subst hz
   exact ⟨true,hx,by simp⟩
  ·rename_i hx
   split at h
   ·cases h
   ·rename_i hh
    cases h
    cases j with
    | zero=>simp at hz;subst hz;exact ⟨false,hx,by simp⟩
    | succ j =>
     obtain ⟨b,h1,h2⟩:=idxM_hit hh j z (by simpa using hz) (fun n h=>by cases h)
     exact ⟨b,h1,by simpa using h2⟩
   ·rename_i n hh
    cases h
    cases j with
    | zero=>simp at hz;subst hz;exact ⟨false,hx,by simp⟩
    | succ j =>
     obtain ⟨b,h1,h2⟩:=idxM_hit hh j z (by simpa using hz) (fun n' h=>by cases h;have:=hj (n+1) rfl;omega)
     exact ⟨b,h1,by simpa using h2⟩
theorem idxM_lt {α:Type} {p:α→Option Bool}:∀ {xs:List α} {n:Nat},idxM p xs=some (some n)→n<xs.length
 | [],_,h=>by cases h
 | x :: xs,n,h=>by
  simp only[idxM] at h
  split at h
  ·cases h
  ·cases h;simp
  ·split at h
   ·cases h
   ·cases h
   ·rename_i m hh
    cases h
    have:=idxM_lt hh
    simp;omega
end Go.VM
namespace Go.VM
open Go Go.Proofs Go.Shelf Go.RowKit Go.Lib
variable {P:Program} {ρ:Ren}
set_option maxHeartbeats 2000000 in
theorem idxFunc_ok (L:SlLaysH0.n6 P ρ) (e:Ty) (aE:∀w,(isAgg (ρ.t 23)).run P w=.ok true w) (zE:∀w,(Go.sizeOf (ρ.t 23)).run P w=.ok e.size w) (hS:e.isS=true):HoOk P (ρ.f 6) (0,e):=by
 refine HoP.ok ?_
 intro θ S w xs V h first us pr i hθ hSl hV hbig hi eg hp
 obtain ⟨p,cap,e1,hcap,hc⟩:=hV
 obtain rfl:V=.slice p xs.length cap:=by simpa using e1
 refine .inl ⟨L.f6.enters rfl _ _,?_⟩
 have mixed:=L.mixed;have t0:=L.t0;have a0:=L.a0;have z0:=L.z0;have v0:=L.v0;have t3:=L.t3;have a3:=L.a3;have z3:=L.z3;have v3:=L.v3;have t4:=L.t4;have a4:=L.a4;have z4:=L.z4;have v4:=L.v4;have t22:=L.t22;have a22:=L.a22;have z22:=L.z22;have v22:=L.v22
 have hrow:∀(W:World),Below w.heap.size w W→∀j z,xs[j]? = some z→∃b off ws,p=some ⟨b,off,none⟩∧RepC θ S W e z ws∧Sem.run P (loadCellsFrom ⟨b,off+j*e.size,none⟩ 0 e.size #[]) W=.ok ws.toArray W:=fun W hW j z hz=>by
  rcases hc with rfl | ⟨b,off,rfl,hb,hx⟩
  ·simp at hz
  ·obtain ⟨ws,c1,c2⟩:=hx j z hz
   have c1':RepC θ S W e z ws:=c1.mono (fun _ h=>h) (fun b hb=>hW.block b (hSl b hb))
   refine ⟨b,off,ws,rfl,c1',?_⟩
   exact run_loadCellsFrom_list P _ _ ws e.size c1.len (fun i v hi=>by
    rw[Addr.add_lit,hW.cell (p:=⟨b,off+j*e.size+i,none⟩) (hSl b hb)]
    exact c2 i v hi)
 clear hc
 generalize hn:xs.length=n at *
 obtain ⟨_,_,FG⟩:=L.f6
 go_enter FG,SlBodyH.n6_ntmps ρ
 go_wp2
 go_loopg [5,8] n (fun gg _ s8 wr=>∃kk:Nat,kk≤n∧n-kk≤gg∧s8=.int .i64 kk∧Aside (Below w.heap.size w wr)∧Aside (∀m,i=some m→kk≤m))
 case atStart=>exact ⟨0,Nat.zero_le _,by omega,rfl,Below.refl _ w,fun m _=>Nat.zero_le m⟩
 case round =>
  obtain ⟨kk,hkk,hg,rfl,BW,A⟩:=hrel
  by_cases hlt:kk<n
  ·have hltz:(kk:Int)<(n:Int):=by omega
   obtain ⟨z,hz⟩:∃z,xs[kk]? = some z:=⟨_,List.getElem?_eq_getElem bo%⟩
   obtain ⟨b,off,ws,rfl,l1,l2⟩:=hrow wr BW.out kk z hz
   obtain ⟨bb,hb1,hb2⟩:=idxM_hit hi kk z hz A.out
   have hcall:=hp z bb (List.mem_of_getElem? hz) hb1 wr ws BW.out l1
   have hag:aggOf e ws=.agg ⟨ws⟩:=by unfold aggOf;rw[if_pos hS]
   rw[hag] at hcall
   clear hrow hp
   cases bb with
   | true =>
    go_wp2_with (go_at_fn h;refine hcall.mono ?_;rintro e w' ⟨rfl,hb'⟩)
    go_ret
    obtain rfl:=hb2.1 trivial
    exact ⟨rfl,hb'⟩
   | false =>
    go_wp2_with (go_at_fn h;refine hcall.mono ?_;rintro e w' ⟨rfl,hb'⟩)
    go_roundg (n-(kk+1))
    case measure=>omega
    case rel =>
     refine ⟨kk+1,by omega,by omega,by go_num,hb',(show Aside _ from fun m hm=>?_)⟩
     have h1:=A.out m hm
     have h2:m≠kk:=fun e=>by subst e;exact absurd (hb2.2 hm) (by simp)
     omega
  ·have hltz:¬(kk:Int)<(n:Int):=by omega
   have:kk=n:=by omega
   subst this
   go_wp2
   go_ret
   cases i with
   | none=>exact ⟨rfl,BW.out⟩
   | some m =>
    have h1:=A.out m rfl
    have h2:=idxM_lt hi
    omega
set_option maxHeartbeats 2000000 in
theorem hasFunc_ok (L:SlLaysH0.n8 P ρ) (e:Ty) (aE:∀w,(isAgg (ρ.t 23)).run P w=.ok true w) (zE:∀w,(Go.sizeOf (ρ.t 23)).run P w=.ok e.size w) (hS:e.isS=true):HoOk P (ρ.f 8) (1,e):=by
 refine HoP.ok ?_
 intro θ S w xs V h first us pr i hθ hSl hV hbig hi eg hp
 have e6:∀args w,(callFunc (ρ.f 6) args).run P w=.ok (.enter (ρ.f 6) args) w:=L.f6.enters rfl
 have hI:Calls P (ρ.f 6) ⟨[V,.func (.func h) ⟨first⟩ ⟨us⟩]⟩ w fun E W'=>E=.returned (.int .i64 (idxV i))∧Below w.heap.size w W':=((idxFunc_ok { L with } e aE zE hS).1 rfl θ S w xs V h first us pr i hθ hSl hV hbig hi eg hp).entered (e6 _ _)
 obtain ⟨p,cap,e1,hcap,hc⟩:=hV
 obtain rfl:V=.slice p xs.length cap:=by simpa using e1
 clear hc hp
 refine .inl ⟨L.f8.enters rfl _ _,?_⟩
 have mixed:=L.mixed;have t0:=L.t0;have a0:=L.a0;have z0:=L.z0;have v0:=L.v0;have t3:=L.t3;have a3:=L.a3;have z3:=L.z3;have v3:=L.v3;have t4:=L.t4;have a4:=L.a4;have z4:=L.z4;have v4:=L.v4;have t22:=L.t22;have a22:=L.a22;have z22:=L.z22;have v22:=L.v22
 obtain ⟨_,_,FG⟩:=L.f8
 have hv:hoV (1:Nat) i=.bool (decide (0≤idxV i)):=by cases i <;> simp[hoV,idxV]
 show Calls P (ρ.f 8) _ w fun E W'=>E=.returned (hoV 1 i)∧Below w.heap.size w W'
 rw[hv]
 clear hv hi
 generalize idxV i=vi at hI ⊢
 go_enter FG,SlBodyH.n8_ntmps ρ
 go_wp2_with (go_at_fn (ρ.f 6);refine hI.mono ?_;rintro e w' ⟨rfl,hb'⟩)
 go_ret
 exact ⟨rfl,hb'⟩
end Go.VM
namespace Go.VM
open Go Go.Proofs Go.Shelf Go.RowKit Go.Lib
variable {P:Program} {ρ:Ren}
theorem ho_nil {P:Program}:∀g kd,look ([]:List (Nat×Nat×Ty)) g=some kd→HoOk P g kd:=fun _ _ h=>by cases h
theorem ho_cons {P:Program} {k:Nat} {kd:Nat×Ty} {l:List (Nat×Nat×Ty)} (h0:HoOk P k kd) (h:∀g kd,look l g=some kd→HoOk P g kd):∀g kd',look ((k,kd) :: l) g=some kd'→HoOk P g kd':=fun g kd' e=>by
 rw[look_cons] at e
 split at e
 ·rename_i hk
  cases e
  subst hk
  exact h0
 ·exact h g kd' e
end Go.VM
namespace Go.VM
open Go.RowKit
variable {P:Program} {Γ:Ctx} {g:Nat}
theorem ext_IndexByte (he:Enters P g)
  (hC:∀(s:ByteArray) (c:Int) (w:World),Calls P g #[.string s,.int .u8 c] w fun e w'=>e=.returned (.int .i64 (Lib.indexByte s.data.toList c.toNat.toUInt8))∧w'=w) :
  FnOk P Γ g ⟨[(.str,0),(.int .u8,0)],[(.int .i64,1)]⟩ x_strings_IndexByte:=by
 refine fnok_flat (fun _=>rfl) (fun _ _=>rfl) (fun _=>rfl) he ?_
 rintro ⟨s,c,⟨⟩⟩ ⟨r,⟨⟩⟩ hF θ S w ι Vs hGl hS hA
 simp only[x_strings_IndexByte] at hF
 split at hF
 case isFalse=>cases hF
 case isTrue hl =>
  obtain rfl:Lib.indexByte s c.toNat.toUInt8=r:=by injection hF with e;injection e
  obtain ⟨x,y,rfl,rfl,rfl⟩:=all2_two hA
  refine (hC (mkB s) c w).mono ?_
  rintro e w' ⟨rfl,rfl⟩
  exact ⟨_,rfl,.refl _ _,fun _ _ _=>rfl⟩
end Go.VM
namespace Go.VM
open Go.RowKit
variable {P:Program} {Γ:Ctx} {g:Nat}
def x_strconv_Atoi:Bs×Unit→Option (Int×Bool×Unit)
 | (s,_)=>if s.length≤fits then some (match Lib.atoiAll s with
  | .ok v=>(v,true,())
  | .syntax=>(0,false,())
  | .range=>(Lib.atoiSat s,false,())) else none
def x_strings_Trim:Bs×Bs×Unit→O1 Bs
 | (s,[c],_)=>if s.length≤fits∧c.toNat<128 then some (Lib.trimB s c,()) else none
 | _=>none
def WFe (zb eg rg:Nat) (P:Program) (S:Nat→Prop) (w:World):Prop:=WF zb P S w∧(S eg∧∃t p,w.cell? ⟨eg,0,none⟩=some (.iface t p))∧(S rg∧∃t p,w.cell? ⟨rg,0,none⟩=some (.iface t p))
theorem WFe_mono (zb eg rg:Nat) (P:Program):∀(S S':Nat→Prop) (w w':World),(∀b,S b→S' b)→(∀b,S b→w'.heap[b]? = w.heap[b]?)→WFe zb eg rg P S w→WFe zb eg rg P S' w':=by
 intro S S' w w' hs h ⟨h1,⟨h2,t,p,h3⟩,⟨h4,t',p',h5⟩⟩
 exact ⟨WF_mono zb P S S' w w' hs h h1,⟨hs _ h2,t,p,(World.cell?_of_block (w:=w) (h _ h2)).trans h3⟩,⟨hs _ h4,t',p',(World.cell?_of_block (w:=w) (h _ h4)).trans h5⟩⟩
theorem err_of_reads {P:Program} {w:World} {n nm:String} {d:DataW Unit} {gv t:Nat} {ms:Array (String×TypeId)} (hg:P.globalNamed n=some gv) (ht:(P.globals[gv]?).map (·.type)=some t) (hi:P.underlying t=some (.interface ms))
  (h:Lib.VarReads P w n (.iface nm d)):gv<w.heap.size∧∃t p,w.cell? ⟨gv,0,none⟩=some (.iface t p):=by
 obtain ⟨g0,t0,cs,fuel,p,h1,h2,h3,h4⟩:=h
 obtain rfl:=Option.some.inj (hg.symm.trans h1)
 obtain rfl:=Option.some.inj (ht.symm.trans h2)
 obtain ⟨f1,u,v,e,hn,_⟩:=iface_of_trod hi h4
 have h0:=World.var?_cell hg h3 0
 have e0:cs[0]? = some (.iface u v):=by
  cases cs;simp only at e;subst e;rfl
 rw[e0] at h0
 exact ⟨World.block_lt_of_cell? (h:=h0),u,v,h0⟩
theorem ext_Atoi {eg rg:Nat} {tE tB:TypeId} {oE:Nat} (he:Enters P g) (hG:∀S w,Γ.wf S w→(∃t p,w.cell? ⟨eg,0,none⟩=some (.iface t p))∧∃t p,w.cell? ⟨rg,0,none⟩=some (.iface t p))
  (h1:∀(s:ByteArray) (hmax:s.size≤9223372036854775806) (v:Int) (h:Lib.atoiAll s.data.toList=.ok v) (w:World),Calls P g #[.string s] w fun e w'=>e=.returned (.tuple #[.int .i64 v,.nilIface])∧(w'=w∨∃t,w'=Lib.bytesWorld w tB t))
  (h2:∀(s:ByteArray) (hlim:s.size≤281474976710656) (h:Lib.atoiAll s.data.toList=.syntax) (ev:Value) (w:World) (hv:w.cell? ⟨eg,0,none⟩=some ev) (hev:ev=.nilIface∨∃te pe,ev=.iface te pe),
   Calls P g #[.string s] w fun e w'=>∃N,e=.returned (.tuple #[.int .i64 0,.iface tE (.pointer (some ⟨N,0,none⟩))])∧w.heap.size≤N∧w'.heap[N]? = some (.cells #[.string ⟨#[65,116,111,105]⟩,.string s,ev] oE (0,0))∧Below w.heap.size w w')
  (h3:∀(s:ByteArray) (hlim:s.size≤281474976710656) (h:Lib.atoiAll s.data.toList=.range) (ev:Value) (w:World) (hv:w.cell? ⟨rg,0,none⟩=some ev) (hev:ev=.nilIface∨∃te pe,ev=.iface te pe),
   Calls P g #[.string s] w fun e w'=>∃N,e=.returned (.tuple #[.int .i64 (Lib.atoiSat s.data.toList),.iface tE (.pointer (some ⟨N,0,none⟩))])∧w.heap.size≤N∧w'.heap[N]? = some (.cells #[.string ⟨#[65,116,111,105]⟩,.string s,ev] oE (0,0))∧Below w.heap.size w w') :
  FnOk P Γ g ⟨[(.str,0)],[(.int .i64,1),(.err,1)]⟩ x_strconv_Atoi:=by
 refine fnok_flat (fun _=>rfl) (fun _ _=>rfl) (fun _=>rfl) he ?_
 rintro ⟨s,⟨⟩⟩ y hF θ S w ι Vs hGl hS hA
 obtain ⟨⟨t1,p1,e1⟩,t2,p2,e2⟩:=hG _ _ hGl.1
 simp only[x_strconv_Atoi] at hF
 split at hF
 case isFalse=>cases hF
 case isTrue hl =>
  have hl:s.length≤1073741824:=hl
  obtain rfl:=Option.some.inj hF
  obtain ⟨x,rfl,rfl⟩:=all2_one hA
  cases ha:Lib.atoiAll s with
  | ok v =>
   refine (h1 (mkB s) (by show s.length≤_;omega) v ha w).mono ?_
   rintro e w' ⟨rfl,hw⟩
   refine ⟨_,rfl,?_,fun ι' S' m=>⟨_,rfl,.cons rfl (.cons (.inl ⟨rfl,rfl⟩) .nil)⟩⟩
   rcases hw with rfl | ⟨t,rfl⟩
   ·exact .refl _ _
   ·exact Lib.bytesWorld_below _ _ _
  | «syntax» =>
   refine (h2 (mkB s) (by show s.length≤_;omega) ha _ w e1 (.inr ⟨_,_,rfl⟩)).mono ?_
   rintro e w' ⟨N,rfl,_,_,hb⟩
   exact ⟨_,rfl,hb,fun ι' S' m=>⟨_,rfl,.cons rfl (.cons (.inr ⟨rfl,_,_,rfl⟩) .nil)⟩⟩
  | range =>
   refine (h3 (mkB s) (by show s.length≤_;omega) ha _ w e2 (.inr ⟨_,_,rfl⟩)).mono ?_
   rintro e w' ⟨N,rfl,_,_,hb⟩
   exact ⟨_,rfl,hb,fun ι' S' m=>⟨_,rfl,.cons rfl (.cons (.inr ⟨rfl,_,_,rfl⟩) .nil)⟩⟩
theorem ext_Trim (he:Enters P g)
  (hC:∀(s:ByteArray) (c:UInt8) (hc:c.toNat<128) (w:World) (hs:s.size≤9223372036854775807),Calls P g #[.string s,.string ⟨#[c]⟩] w fun e w'=>e=.returned (.string ⟨(Lib.trimB s.data.toList c).toArray⟩)∧(w'=w∨w'=w.drew)) :
  FnOk P Γ g ⟨[(.str,0),(.str,0)],[(.str,1)]⟩ x_strings_Trim:=by
 refine fnok_flat (fun _=>rfl) (fun _ _=>rfl) (fun _=>rfl) he ?_
 rintro ⟨s,sep,⟨⟩⟩ y hF θ S w ι Vs hGl hS hA
 match sep,hF with
 | [c],hF =>
  simp only[x_strings_Trim] at hF
  split at hF
  case isFalse=>cases hF
  case isTrue hl =>
   obtain ⟨hl,hc⟩:=hl
   have hl:s.length≤1073741824:=hl
   obtain rfl:=Option.some.inj hF
   obtain ⟨x,y,rfl,rfl,rfl⟩:=all2_two hA
   refine (hC (mkB s) c hc w (by show s.length≤_;omega)).mono ?_
   rintro e w' ⟨rfl,hw⟩
   refine ⟨_,rfl,?_,fun ι' S' m=>rfl⟩
   rcases hw with rfl | rfl
   ·exact .refl _ _
   ·exact ⟨rfl,rfl,rfl,Nat.le_refl _,fun _ _=>rfl⟩
end Go.VM
namespace Go.VM
open Go
def sp (c:UInt8):Bool:=c==32
def rsp (l:Bs):Bs:=(l.reverse.dropWhile sp).reverse
def trimS (l:Bs):Bs:=rsp (l.dropWhile sp)
theorem rsp_snoc (t:Bs) (c:UInt8):rsp (t++[c])=if c=32 then rsp t else t++[c]:=by
 unfold rsp
 rw[List.reverse_append,List.reverse_singleton,List.singleton_append,List.dropWhile_cons]
 by_cases h:c=32
 ·rw[if_pos (by simp[sp,h]),if_pos h]
 ·rw[if_neg (by simp[sp,h]),if_neg h];simp
theorem rsp_cons (x:UInt8) (l:Bs):rsp (x :: l)=if rsp l=[] then (if x=32 then [] else [x]) else x :: rsp l:=by
 unfold rsp
 rw[List.reverse_cons,List.dropWhile_append]
 by_cases h:l.reverse.dropWhile sp=[]
 ·simp only[h,List.isEmpty_nil,if_true,List.reverse_nil]
  by_cases hx:x=32 <;> simp[sp,hx]
 ·have h2:(l.reverse.dropWhile sp).isEmpty=false:=by cases hq:l.reverse.dropWhile sp with | nil=>exact absurd hq h | cons _ _=>rfl
  simp only[h2,Bool.false_eq_true,if_false,List.reverse_append,List.reverse_singleton,List.singleton_append,List.reverse_eq_nil_iff,h]
theorem trim_lib:∀l:Bs,Lib.trimB l 32=trimS l
 | []=>rfl
 | x :: l=>by
  have ih:=trim_lib l
  have e:Lib.trimB (x :: l) 32=(rsp (x :: l)).dropWhile sp:=rfl
  have e2:Lib.trimB l 32=(rsp l).dropWhile sp:=rfl
  rw[e,rsp_cons]
  unfold trimS
  rw[List.dropWhile_cons]
  by_cases hx:x=32
  ·rw[if_pos (show sp x=true by simp[sp,hx])]
   by_cases hr:rsp l=[]
   ·rw[if_pos hr,if_pos hx]
    rw[e2,hr] at ih
    exact ih
   ·rw[if_neg hr,List.dropWhile_cons,if_pos (show sp x=true by simp[sp,hx])]
    rw[←e2];exact ih
  ·rw[if_neg (show ¬sp x=true by simp[sp,hx]),rsp_cons]
   by_cases hr:rsp l=[]
   ·rw[if_pos hr,if_neg hx,List.dropWhile_cons,if_neg (show ¬sp x=true by simp[sp,hx])]
   ·rw[if_neg hr,List.dropWhile_cons,if_neg (show ¬sp x=true by simp[sp,hx])]
theorem rsp_len (l:Bs):(rsp l).length≤l.length:=by
 unfold rsp
 rw[List.length_reverse]
 have:=(List.dropWhile_sublist (p:=sp) (l:=l.reverse)).length_le
 simpa using this
theorem trimS_len (l:Bs):(trimS l).length≤l.length:=Nat.le_trans (rsp_len _) (List.dropWhile_sublist (p:=sp) (l:=l)).length_le
def nvM (s:Bs):Bs×Bs:=(trimS (cut1 61 s).1,trimS ((cut1 61 s).2.getD []))
def numL (acc:Nat) (l:Bs):Nat:=l.foldl (fun a c=>a*10+(c.toNat-48)) acc
def figB (c:UInt8):Bool:=decide (48≤c.toNat∧c.toNat≤57)
def ageM (s:Bs):Int:=if s.all figB=true∧1≤s.length∧s.length≤7∧numL 0 s≤1000000 then (numL 0 s:Int) else -1
theorem num_ok:∀(l:Bs) (acc:Nat),l.all figB=true→(acc+1)*10 ^ l.length≤10000000→Lib.parseUint10 acc l=.ok (numL acc l)∧numL acc l<10000000
 | [],acc,_,h=>⟨rfl,by simp at h;show acc<_;omega⟩
 | c :: l,acc,hf,h=>by
  simp only[List.all_cons,Bool.and_eq_true] at hf
  have hc:=of_decide_eq_true hf.1
  have hp:1≤10 ^ l.length:=Nat.pow_pos bo%
  have e:(acc+1)*10 ^ (c :: l).length=((acc+1)*10)*10 ^ l.length:=by rw[List.length_cons,Nat.pow_succ,Nat.mul_assoc,Nat.mul_comm 10]
  have h1:(acc*10+(c.toNat-48)+1)*10 ^ l.length≤((acc+1)*10)*10 ^ l.length:=Nat.mul_le_mul_right _ bo%
  have h2:acc+1≤((acc+1)*10)*10 ^ l.length:=Nat.le_trans bo% (Nat.le_mul_of_pos_right _ hp)
  obtain ⟨g1,g2⟩:=num_ok l (acc*10+(c.toNat-48)) hf.2 bo%
  refine ⟨?_,g2⟩
  simp only[Lib.parseUint10]
  rw[if_pos hc,if_neg bo%,if_neg bo%,g1]
  rfl
theorem pow7 {k:Nat} (h:k≤7):(0+1)*10 ^ k≤10000000:=by
 have:10 ^ k≤10 ^ 7:=Nat.pow_le_pow_right bo% h
 omega
theorem atoi_fig {s:Bs} (hf:s.all figB=true) (h1:1≤s.length) (h7:s.length≤7):Lib.atoiAll s=.ok (numL 0 s:Int):=by
 obtain ⟨g1,g2⟩:=num_ok s 0 hf (pow7 h7)
 cases s with
 | nil=>simp at h1
 | cons c l =>
  have hc:48≤c.toNat∧c.toNat≤57:=by
   simp only[List.all_cons,Bool.and_eq_true] at hf
   exact of_decide_eq_true hf.1
  have n1:¬(c.toNat=43∨c.toNat=45):=by omega
  have n2:¬c.toNat=45:=by omega
  simp only[Lib.atoiAll]
  rw[if_neg n1]
  unfold Lib.parseMag
  rw[if_neg (by simp),g1]
  simp only[n2,not_false_eq_true,true_and,false_and,if_false]
  rw[if_neg bo%]
theorem ageM_neg {s:Bs} (h:¬(s.all figB=true∧1≤s.length∧s.length≤7∧numL 0 s≤1000000)):ageM s = -1:=by unfold ageM;rw[if_neg h]
theorem ageM_pos {s:Bs} (h:s.all figB=true∧1≤s.length∧s.length≤7∧numL 0 s≤1000000):ageM s=(numL 0 s:Int):=by unfold ageM;rw[if_pos h]
theorem ageM_r (s:Bs):-1≤ageM s∧ageM s≤1000000:=by
 unfold ageM
 split
 ·rename_i h;omega
 ·omega
def kDomain:Bs:=[100,111,109,97,105,110]
def kPath:Bs:=[112,97,116,104]
def kAge:Bs:=[109,97,120,45,97,103,101]
def kSecure:Bs:=[115,101,99,117,114,101]
def kSame:Bs:=[115,97,109,101,115,105,116,101]
def kNone:Bs:=[110,111,110,101]
def kStrict:Bs:=[115,116,114,105,99,116]
def dot1 (v:Bs):Bs:=if ([46]:Bs).isPrefixOf v=true then v.drop 1 else v
def partM (c:TCookie) (now:Int) (k v:Bs):TCookie :=
 if k=kDomain then (if v=[] then c else (c.1,c.2.1,lowM (dot1 v),false,c.2.2.2.2))
 else if k=kPath then (if ([47]:Bs).isPrefixOf v=true then (c.1,c.2.1,c.2.2.1,c.2.2.2.1,v,c.2.2.2.2.2) else c)
 else if k=kAge then (if 0≤ageM v then (c.1,c.2.1,c.2.2.1,c.2.2.2.1,c.2.2.2.2.1,now+ageM v+1,c.2.2.2.2.2.2) else c)
 else if k=kSecure then (c.1,c.2.1,c.2.2.1,c.2.2.2.1,c.2.2.2.2.1,c.2.2.2.2.2.1,true,c.2.2.2.2.2.2.2)
 else if k=kSame then (if lowM v=kNone then (c.1,c.2.1,c.2.2.1,c.2.2.2.1,c.2.2.2.2.1,c.2.2.2.2.2.1,c.2.2.2.2.2.2.1,0,c.2.2.2.2.2.2.2.2) else if lowM v=kStrict then (c.1,c.2.1,c.2.2.1,c.2.2.2.1,c.2.2.2.2.1,c.2.2.2.2.2.1,c.2.2.2.2.2.2.1,2,c.2.2.2.2.2.2.2.2) else c)
 else c
theorem low_dot (v:Bs):dot1 (lowM v)=lowM (dot1 v):=by
 unfold dot1
 cases v with
 | nil=>rfl
 | cons c l =>
  have h:(lowB c==46)=(c==46):=by
   have:=u8_all (p:=fun c=>(lowB c==46)==(c==46)) (by decide +kernel) c
   simpa using this
  have h2:([46]:Bs).isPrefixOf (lowM (c :: l))=([46]:Bs).isPrefixOf (c :: l):=by
   simp only[lowM,List.map_cons,List.isPrefixOf]
   rw[BEq.comm (a:=(46:UInt8)) (b:=lowB c),h,BEq.comm (a:=c)]
  rw[h2]
  split
  ·rfl
  ·rfl
structure BK (c:TCookie):Prop where
 name:c.1.length≤1000
 val:c.2.1.length≤1000
 dom:c.2.2.1.length≤1000
theorem dot1_len (v:Bs):(dot1 v).length≤v.length:=by unfold dot1;split <;> simp
theorem part_bk {c:TCookie} (B:BK c) (now:Int) {k v:Bs} (hv:v.length≤1000):BK (partM c now k v):=by
 obtain ⟨b1,b2,b3⟩:=B
 unfold partM
 split
 ·split
  ·exact ⟨b1,b2,b3⟩
  ·exact ⟨b1,b2,by show (lowM _).length≤_;rw[lowM_len];exact Nat.le_trans (dot1_len v) hv⟩
 ·split
  ·split
   ·exact ⟨b1,b2,b3⟩
   ·exact ⟨b1,b2,b3⟩
  ·split
   ·split
    ·exact ⟨b1,b2,b3⟩
    ·exact ⟨b1,b2,b3⟩
   ·split
    ·exact ⟨b1,b2,b3⟩
    ·split
     ·split
      ·exact ⟨b1,b2,b3⟩
      ·split
       ·exact ⟨b1,b2,b3⟩
       ·exact ⟨b1,b2,b3⟩
     ·exact ⟨b1,b2,b3⟩
theorem part_keep (c:TCookie) (now:Int) (k v:Bs):(partM c now k v).1=c.1∧(partM c now k v).2.1=c.2.1∧(partM c now k v).2.2.2.2.2.2.2.2.1=c.2.2.2.2.2.2.2.2.1:=by
 unfold partM
 (repeat' split) <;> exact ⟨rfl,rfl,rfl⟩
theorem part_alone (c:TCookie) (now:Int) (k v:Bs):(partM c now k v).2.2.2.1=true→c.2.2.2.1=true∧(partM c now k v).2.2.1=c.2.2.1:=by
 unfold partM
 (repeat' split) <;> intro h <;> first | exact ⟨h,rfl⟩ | cases h
def stepC (now:Int) (c:TCookie) (p:Bs):TCookie:=partM c now (lowM (nvM p).1) (nvM p).2
def nullC:TCookie:=([],[],[],false,[],0,false,0,0,())
def endB (t1 t2 e al d l sf hs s0 pr ok:Bool) (c:TCookie):TCookie×Int :=
 bif !t1||(!t2||e) then (nullC,1) else bif !al&&(!d||l) then (nullC,2) else bif (sf && !hs)||(s0 && !sf) then (nullC,3) else bif !pr then (nullC,4) else bif !ok then (nullC,1) else (c,0)
def endM (sch host:Bs) (c:TCookie):TCookie×Int:=endB (tokM c.1) (tokM c.2.1) (c.1==([]:Bs)) c.2.2.2.1 (domM host c.2.2.1) (decide (((labelsM c.2.2.1).length:Int)<2)) c.2.2.2.2.2.2.1 (sch==([104,116,116,112,115]:Bs)) (decide (c.2.2.2.2.2.2.2.1=0)) (prefM c) (okCookie c) c
theorem end_zero {sch host:Bs} {c:TCookie} (h:(endM sch host c).2=0):(endM sch host c).1=c∧okCookie c=true∧(c.2.2.2.1=false→domM host c.2.2.1=true∧2≤(labelsM c.2.2.1).length)∧(c.2.2.2.2.2.2.1=true→(sch==([104,116,116,112,115]:Bs))=true):=by
 unfold endM at h ⊢
 have hl:decide (((labelsM c.2.2.1).length:Int)<2)=false→2≤(labelsM c.2.2.1).length:=fun h=>by have:=of_decide_eq_false h;omega
 revert h hl
 generalize tokM c.1=t1
 generalize tokM c.2.1=t2
 generalize (c.1==([]:Bs))=e
 generalize domM host c.2.2.1=d
 generalize decide (((labelsM c.2.2.1).length:Int)<2)=l
 generalize (sch==([104,116,116,112,115]:Bs))=hs
 generalize decide (c.2.2.2.2.2.2.2.1=0)=s0
 generalize prefM c=pr
 generalize okCookie c=ok
 generalize c.2.2.2.1=al
 generalize c.2.2.2.2.2.2.1=sf
 intro h hl
 unfold endB at h ⊢
 cases t1 <;> cases t2 <;> cases e <;> (try cases h;done)
 cases al <;> cases d <;> cases l <;> (try cases h;done) <;> cases sf <;> cases hs <;> cases s0 <;> (try cases h;done) <;> cases pr <;> cases ok <;> (try cases h;done)
 all_goals simp_all
theorem end_or (sch host:Bs) (c:TCookie):(endM sch host c).1=nullC∨(endM sch host c).1=c:=by
 unfold endM endB
 cases (!tokM c.1||(!tokM c.2.1||c.1==([]:Bs)))
 case true=>exact .inl rfl
 simp only[cond_false]
 cases (!c.2.2.2.1&&(!domM host c.2.2.1||decide (((labelsM c.2.2.1).length:Int)<2)))
 case true=>exact .inl rfl
 simp only[cond_false]
 cases ((c.2.2.2.2.2.2.1 && !(sch==([104,116,116,112,115]:Bs)))||(decide (c.2.2.2.2.2.2.2.1=0) && !c.2.2.2.2.2.2.1))
 case true=>exact .inl rfl
 simp only[cond_false]
 cases prefM c
 case false=>exact .inl rfl
 cases okCookie c
 case false=>exact .inl rfl
 exact .inr rfl
theorem null_bk:BK nullC:=⟨by simp[nullC],by simp[nullC],by simp[nullC]⟩
theorem end_bk {sch host:Bs} {c:TCookie} (B:BK c):BK (endM sch host c).1:=by
 rcases end_or sch host c with h | h <;> rw[h]
 ·exact null_bk
 ·exact B
theorem putH_short (h:THost):(putH h).length≤147:=by
 unfold putH hostPutM
 split
 ·rename_i ho
  split
  ·rename_i h2
   rw[h2] at ho
   obtain ⟨_,a1,a2⟩:=hostOk_two ho
   have:=fourT_len h.2.2.1.toNat bo%
   omega
  ·rename_i h2
   unfold hostOkM at ho
   by_cases h0:h.1=0
   ·rw[if_pos h0] at ho
    simp only[Bool.and_eq_true,beq_iff_eq] at ho
    rw[ho.1];simp
   ·rw[if_neg h0] at ho
    by_cases h1:h.1=1
    ·rw[if_pos h1] at ho
     unfold isNameM at ho
     simp only[Bool.and_eq_true,decide_eq_true_eq] at ho
     omega
    ·rw[if_neg h1,if_neg h2] at ho;cases ho
 ·simp
def startC (host path:Bs) (now:Int) (p:Bs):TCookie:=((nvM p).1,(nvM p).2,host,true,path,0,false,1,now,())
def getC (scheme host path:Bs) (t:Bs) (now:Int):TCookie×Int:=endM scheme host ((cutM 59 t).tail.foldl (stepC now) (startC host path now ((cutM 59 t).headD [])))
theorem cut1_len2 (c:UInt8):∀s:Bs,(cut1 c s).1.length≤s.length∧((cut1 c s).2.getD []).length≤s.length
 | []=>⟨Nat.le_refl _,Nat.le_refl _⟩
 | x :: l=>by
  have ih:=cut1_len2 c l
  simp only[cut1]
  split
  ·exact ⟨by simp,by simp⟩
  ·simp only[List.length_cons];exact ⟨by omega,by omega⟩
theorem fold_bk (now:Int):∀ {l:List Bs} {c:TCookie},BK c→(∀p∈l,p.length≤1000)→BK (l.foldl (stepC now) c)
 | [],c,B,_=>B
 | p :: l,c,B,h=>fold_bk now (l:=l) (part_bk B now (Nat.le_trans (trimS_len _) (Nat.le_trans (cut1_len2 61 p).2 (h p (by simp))))) fun q hq=>h q (by simp[hq])
theorem fold_keep (now:Int):∀(l:List Bs) (c:TCookie),(l.foldl (stepC now) c).2.2.2.2.2.2.2.2.1=c.2.2.2.2.2.2.2.2.1∧((l.foldl (stepC now) c).2.2.2.1=true→c.2.2.2.1=true∧(l.foldl (stepC now) c).2.2.1=c.2.2.1)
 | [],c=>⟨rfl,fun h=>⟨h,rfl⟩⟩
 | p :: l,c=>by
  obtain ⟨h1,h2⟩:=fold_keep now l (stepC now c p)
  refine ⟨h1.trans (part_keep c now _ _).2.2,fun h=>?_⟩
  obtain ⟨h3,h4⟩:=h2 h
  obtain ⟨h5,h6⟩:=part_alone c now _ _ h3
  exact ⟨h5,h4.trans h6⟩
def cookieM (ok:Bool) (kind:Int) (sch host path t:Bs) (now:Int):TCookie×Int :=
 bif !ok||(decide (kind=0)||(!decide (0≤now∧now≤1000000)||decide ((200:Int)<(t.length:Int)))) then (nullC,1) else getC sch host path t now
end Go.VM
namespace Go.VM
open Go Go.Proofs Go.Shelf Go.RowKit Go.Lib
variable {P:Program} {ρ:Ren} {θ:Nat→Value} {S:Nat→Prop}
theorem RowAt.mono {w w':World} {e:Ty} {L:List e.den} {V:Value} (h:RowAt θ S w e L V) (hs:Same S w w') (hz:w.heap.size≤w'.heap.size) (hb:∀b,blk V=some b→w'.heap[b]? = w.heap[b]?):RowAt θ S w' e L V :=
 ROb.mono (ι:=fun _=>V) (fun _ h=>h) hs hz rfl (fun _ _=>rfl) hb h
structure Lies (θ:Nat→Value) (S:Nat→Prop) (w:World) (e:Ty) (L:List e.den) (b o cap:Nat):Prop where
 pos:0<e.size
 le:L.length≤cap
 ne:cap≠0
 cell:∀k,k<cap*e.size→(∃v,w.cell? ⟨b,o+k,none⟩=some v)∧w.frozen? ⟨b,o+k,none⟩=false
 at_:∀i x,L[i]? = some x→∃ws,RepC θ S w e x ws∧CellsAt w b (o+i*e.size) ws
theorem Lies.row {w:World} {e:Ty} {L:List e.den} {b o cap:Nat} (h:Lies θ S w e L b o cap):RowAt θ S w e L (.slice (some ⟨b,o,none⟩) L.length cap) :=
 ⟨h.pos,_,cap,rfl,h.le,.inr ⟨b,o,rfl,h.cell,h.at_⟩⟩
theorem RowAt.lies {w:World} {e:Ty} {L:List e.den} {V:Value} (h:RowAt θ S w e L V) (hL:L≠[]):∃b o cap,V=.slice (some ⟨b,o,none⟩) L.length cap∧Lies θ S w e L b o cap:=by
 obtain ⟨h0,p,cap,h1,h2,h3⟩:=h
 have hl:=List.length_pos_iff.2 hL
 obtain ⟨b,o,rfl,h4,h5⟩:=h3.resolve_left bo%
 exact ⟨b,o,cap,h1,h0,h2,by omega,h4,h5⟩
theorem blk_lies (b o n cap:Nat) (h:cap≠0):blk (.slice (some ⟨b,o,none⟩) n cap)=some b:=by simp[blk,h]
theorem Lies.mono {w w':World} {e:Ty} {L:List e.den} {b o cap:Nat} (h:Lies θ S w e L b o cap) (hs:Same S w w') (hb:w'.heap[b]? = w.heap[b]?):Lies θ S w' e L b o cap:=by
 have hB:Same (· = b) w w':=fun c e=>by subst e;exact hb
 exact ⟨h.pos,h.le,h.ne,fun k hk=>by rw[hB.cell rfl,hB.frozen rfl];exact h.cell k hk,fun i x hx=>let ⟨ws,h1,h2⟩:=h.at_ i x hx;⟨ws,h1.mono (fun _ h=>h) hs,h2.same hB rfl⟩⟩
theorem sets_keep (w:World) (b o:Nat) (vs:List Value):Keep (fun c=>b=c) w (setsAt w b o vs) :=
 ⟨(setsAt_os b _ _ _).1,(setsAt_os b _ _ _).2.1,(setsAt_os b _ _ _).2.2,by rw[setsAt_size];exact Nat.le_refl _,fun k _ hk=>setsAt_block b k (fun e=>hk e.symm) _ _ _⟩
theorem sets_same {w:World} {b o:Nat} {vs:List Value} (hS:¬S b):Same S w (setsAt w b o vs):=fun c hc=>setsAt_block b c (fun e=>hS (e ▸ hc)) _ _ _
theorem Lies.set {w:World} {e:Ty} {L:List e.den} {b o cap i:Nat} (h:Lies θ S w e L b o cap) (hS:¬S b) (hi:i<L.length) {z:e.den} {vs:List Value} (hz:RepC θ S w e z vs):Lies θ S (setsAt w b (o+i*e.size) vs) e (L.set i z) b o cap:=by
 have hv:=hz.len
 have hsm:Same S w (setsAt w b (o+i*e.size) vs):=sets_same hS
 have hcell:∀j,j<vs.length→∃v,w.cell? ⟨b,o+i*e.size+j,none⟩=some v:=fun j hj=>by
  have hle:i*e.size+e.size≤cap*e.size:=by
   rw[←Nat.succ_mul];exact Nat.mul_le_mul_right _ (by have:=h.le;omega)
  have:=(h.cell (i*e.size+j) bo%).1
  rwa [←Nat.add_assoc] at this
 refine ⟨h.pos,by rw[List.length_set];exact h.le,h.ne,fun k hk=>⟨setsAt_some b _ _ _ _ (h.cell k hk).1,by rw[setsAt_frozen];exact (h.cell k hk).2⟩,fun j x hx=>?_⟩
 by_cases hj:i=j
 ·subst hj
  rw[List.getElem?_set_self hi] at hx
  cases hx
  exact ⟨vs,hz.mono (fun _ h=>h) hsm,setsAt_cells b _ vs w hcell⟩
 ·rw[List.getElem?_set_ne hj] at hx
  obtain ⟨ws,h1,h2⟩:=h.at_ j x hx
  refine ⟨ws,h1.mono (fun _ h=>h) hsm,fun k v hk=>?_⟩
  have hkl:k<e.size:=by rw[←h1.len];exact (List.getElem?_eq_some_iff.1 hk).1
  rw[setsAt_other]
  ·exact h2 k v hk
  ·rcases Nat.lt_or_gt_of_ne hj with q | q
   ·right
    have:i*e.size+e.size≤j*e.size:=by rw[←Nat.succ_mul];exact Nat.mul_le_mul_right _ q
    omega
   ·left
    have:j*e.size+e.size≤i*e.size:=by rw[←Nat.succ_mul];exact Nat.mul_le_mul_right _ q
    omega
theorem Lies.cut {w:World} {e:Ty} {L:List e.den} {b o cap:Nat} (h:Lies θ S w e L b o cap) (hS:¬S b) (i:Nat) (vs:List Value):Lies θ S (setsAt w b (o+i*e.size) vs) e (L.take i) b o cap:=by
 refine ⟨h.pos,by rw[List.length_take];have:=h.le;omega,h.ne,fun k hk=>⟨setsAt_some b _ _ _ _ (h.cell k hk).1,by rw[setsAt_frozen];exact (h.cell k hk).2⟩,fun j x hx=>?_⟩
 have hj:j<i:=by
  have:=(List.getElem?_eq_some_iff.1 hx).1
  rw[List.length_take] at this;omega
 rw[List.getElem?_take_of_lt hj] at hx
 obtain ⟨ws,h1,h2⟩:=h.at_ j x hx
 refine ⟨ws,h1.mono (fun _ h=>h) (sets_same hS),fun k v hk=>?_⟩
 have hkl:k<e.size:=by rw[←h1.len];exact (List.getElem?_eq_some_iff.1 hk).1
 rw[setsAt_other]
 ·exact h2 k v hk
 ·left
  have:j*e.size+e.size≤i*e.size:=by rw[←Nat.succ_mul];exact Nat.mul_le_mul_right _ hj
  omega
theorem mem_zeroCells {z:Array Value} {n:Nat} {v:Value} (h:v∈(Builtin.zeroCells z n).toList):v∈z.toList:=by
 unfold Builtin.zeroCells at h
 simp only[Array.toList_map,Array.toList_range,List.mem_map,List.mem_range] at h
 obtain ⟨i,hi,rfl⟩:=h
 have hz:0<z.size:=Nat.pos_of_ne_zero fun e=>by rw[e] at hi;omega
 rw[getElem!_pos z _ (Nat.mod_lt _ hz)]
 exact Array.getElem_mem_toList _
section
variable {α:Type} {p:α→Option Bool}
theorem keepM_def:∀ {xs ys:List α},keepM p xs=some ys→∀z,z∈xs→∃b,p z=some b
 | [],_,_,z,hz=>by cases hz
 | x :: xs,ys,h,z,hz=>by
  simp only[keepM] at h
  split at h
  ·cases h
  ·rename_i b hb
   split at h
   ·cases h
   ·rename_i ys' hy
    rcases List.mem_cons.1 hz with rfl | hz
    ·exact ⟨b,hb⟩
    ·exact keepM_def hy z hz
theorem keepM_snoc {z:α} {b:Bool} (hb:p z=some b):∀ {xs ys:List α},keepM p xs=some ys→keepM p (xs++[z])=some (bif b then ys else ys++[z])
 | [],ys,h=>by cases h;cases b <;> simp[keepM,hb]
 | x :: xs,ys,h=>by
  simp only[keepM] at h
  split at h
  ·cases h
  ·rename_i c hc
   split at h
   ·cases h
   ·rename_i ys' hy
    cases h
    have:=keepM_snoc hb hy
    simp only[List.cons_append,keepM,hc,this]
    cases b <;> cases c <;> rfl
theorem idxM_total:∀ {xs:List α},(∀z,z∈xs→∃b,p z=some b)→∃i,idxM p xs=some i
 | [],_=>⟨_,rfl⟩
 | x :: xs,h=>by
  obtain ⟨b,hb⟩:=h x (by simp)
  obtain ⟨i,hi⟩:=idxM_total (xs:=xs) fun z hz=>h z (by simp[hz])
  cases b with
  | true=>exact ⟨some 0,by simp only[idxM,hb]⟩
  | false=>cases i with
   | none=>exact ⟨none,by simp only[idxM,hb,hi]⟩
   | some k=>exact ⟨some (k+1),by simp only[idxM,hb,hi]⟩
theorem idxM_none:∀ {xs ys:List α},idxM p xs=some none→keepM p xs=some ys→ys=xs
 | [],ys,_,h=>by cases h;rfl
 | x :: xs,ys,hi,h=>by
  simp only[idxM] at hi
  split at hi
  ·cases hi
  ·cases hi
  ·rename_i hb
   split at hi
   ·cases hi
   ·rename_i h0
    simp only[keepM,hb] at h
    split at h
    ·cases h
    ·rename_i ys' hy
     cases h
     rw[idxM_none h0 hy];rfl
   ·cases hi
theorem idxM_first:∀ {xs:List α} {k:Nat},idxM p xs=some (some k)→keepM p (xs.take (k+1))=some (xs.take k)
 | [],k,h=>by cases h
 | x :: xs,k,h=>by
  simp only[idxM] at h
  split at h
  ·cases h
  ·rename_i hb
   cases h
   simp[keepM,hb]
  ·rename_i hb
   split at h
   ·cases h
   ·cases h
   ·rename_i m hm
    cases h
    have:=idxM_first hm
    simp only[List.take_succ_cons,keepM,hb,this];rfl
end
theorem take_succ_of {α:Type} {l:List α} {j:Nat} {z:α} (h:l[j]? = some z):l.take (j+1)=l.take j++[z]:=by rw[List.take_add_one,h];rfl
theorem run_clear_at (w:World) (t te ty:TypeId) (z:Value) (ht:P.underlying t=some (.slice te)) (hv:∀w,(zeroValue te).run P w=.ok z w) (h1:∀v∈z.cells.toList,v.oneCell'=true) (b o n c:Nat)
  (hc:∀j,j<n*z.cells.size→(∃v,w.cell? ⟨b,o+j,none⟩=some v)∧w.frozen? ⟨b,o+j,none⟩=false) :
  (Builtin.clear_ #[t] ty #[.slice (some ⟨b,o,none⟩) n c]).run P w=.ok (.tuple #[]) (setsAt w b o (Builtin.zeroCells z.cells n).toList):=by
 cases n with
 | zero =>
  have:(Builtin.zeroCells z.cells 0).toList=[]:=List.eq_nil_of_length_eq_zero (by simp[zeroCells_size])
  rw[this]
  simp[Builtin.clear_,run_underlying ht,setsAt]
 | succ m =>
  have hsz:(Builtin.zeroCells z.cells (m+1)).toList.length=(m+1)*z.cells.size:=by simp[zeroCells_size]
  have hst:=run_storeCells (P:=P) b o (Builtin.zeroCells z.cells (m+1)).toList 0 w (fun j hj=>by rw[Nat.add_zero];exact hc j bo%) (fun v hv=>h1 v (mem_zeroCells hv))
  simp only[Nat.add_zero] at hst
  simp[Builtin.clear_,run_underlying ht,hv,hst]
structure DfLays (P:Program) (ρ:Ren):Prop where
 n6:SlLaysH0.n6 P ρ
 f10:Bears P (ρ.f 10) (SlBodyH.n10 ρ)
theorem sets_eq (b:Nat):∀(vs:List Value) (o:Nat) (w:World),w.setCells b o vs=setsAt w b o vs
 | [],_,_=>rfl
 | v :: vs,o,w=>by rw[World.setCells,setsAt];exact sets_eq b vs _ _
theorem delete_ok (L:SlLaysE0.n45 P ρ) (e:Ty) (aE:∀w,(isAgg (ρ.t 23)).run P w=.ok true w) (zE:∀w,(Go.sizeOf (ρ.t 23)).run P w=.ok e.size w) {zs:List Value} (vE:∀w,(zeroValue (ρ.t 23)).run P w=.ok (.agg ⟨zs⟩) w) (hzl:zs.length=e.size) (hz1:∀v∈zs,v.oneCell'=true)
  (i0:TypeInfo) (hi0:P.info? (ρ.t 23)=some i0) (hsz:i0.size=e.size):HoOk P (ρ.f 45) (2,e):=by
 refine ⟨fun h=>(by cases h),fun _=>?_⟩
 show DelOk P (ρ.f 45) e
 intro θ S w xs V i j hθ hSl hV hVS hbig hij hj
 have hrow0:=hV
 obtain ⟨h0,p,cap,hVe,hcap,hlie⟩:=hV
 have hVe:V=.slice p xs.length cap:=hVe
 subst hVe
 refine .inl ⟨L.f45.enters rfl _ _,?_⟩
 have mixed:=L.mixed;have t0:=L.t0;have a0:=L.a0;have z0:=L.z0;have v0:=L.v0;have t3:=L.t3;have a3:=L.a3;have z3:=L.z3;have v3:=L.v3;have t4:=L.t4;have a4:=L.a4;have z4:=L.z4;have v4:=L.v4;have t22:=L.t22;have a22:=L.a22;have z22:=L.z22;have v22:=L.v22
 by_cases heq:i=j
 ·subst heq
  have h1:Calls P (ρ.f 45) #[.slice p xs.length cap,.int .i64 i,.int .i64 i] w fun e w'=>e=.returned (.slice p xs.length cap)∧w'=w:=by
   clear hlie hrow0 hVS
   generalize xs.length=n at *
   obtain ⟨_,_,FG⟩:=L.f45
   go_enter FG,SlBodyN.n45_ntmps ρ
   go_wp2
   all_goals (go_ret;exact ⟨rfl,rfl⟩)
  refine h1.mono ?_
  rintro e w' ⟨rfl,rfl⟩
  refine ⟨_,rfl,rfl,by rw[List.take_append_drop];exact hrow0,⟨rfl,rfl,rfl,Nat.le_refl _,fun _ _ _=>rfl⟩,fun b hb=>.inl hb⟩
 ·have hlt:i<j:=by omega
  have hx0:xs≠[]:=by intro e0;subst e0;simp at hj;omega
  obtain ⟨b,o,cap',e1,hL⟩:=hrow0.lies hx0
  simp only[Value.slice.injEq] at e1
  obtain ⟨rfl,_,rfl⟩:=e1
  have hblk:blk (.slice (some ⟨b,o,none⟩) xs.length cap)=some b:=blk_lies _ _ _ _ hL.ne
  have hbS:¬S b:=hVS b hblk
  have hbw:b<w.heap.size:=by
   obtain ⟨⟨v,hv⟩,_⟩:=hL.cell 0 (Nat.mul_pos (by have:=hL.ne;omega) h0)
   exact World.block_lt_of_cell? (h:=hv)
  have hL1:Lies θ S w.drew e xs b o cap:=hL.mono (fun _ _=>rfl) rfl
  obtain ⟨news,hr,hat⟩:=flat_row (w:=w.drew) hθ (e:=e) (b:=b) (xs:=xs.drop j) (off:=o+j*e.size) (fun k x hk=>by
   rw[List.getElem?_drop] at hk
   obtain ⟨ws,c1,c2⟩:=hL1.at_ (j+k) x hk
   refine ⟨ws,c1,?_⟩
   rwa [Nat.add_mul,←Nat.add_assoc] at c2)
  have hnl:news.length=(xs.length-j)*e.size:=by rw[hr.len,List.length_drop]
  obtain ⟨A,hA,hsrc⟩:∃A:Addr,(if cap=j then some (⟨b,o,none⟩:Addr) else some ⟨b,o+j*e.size,none⟩)=some A∧Hid (∀t u,news[t]? = some u→w.drew.cell? (A.add t)=some u):=by
   by_cases h:cap=j
   ·refine ⟨⟨b,o,none⟩,by simp[h],fun t u hu=>?_⟩
    have hl0:news.length=0:=by rw[hnl,show xs.length-j=0 by omega,Nat.zero_mul]
    rw[List.length_eq_zero_iff.1 hl0] at hu
    simp at hu
   ·exact ⟨⟨b,o+j*e.size,none⟩,by simp[h],fun t u hu=>by rw[Addr.add_lit];exact hat t u hu⟩
  have s1:Hid (news.length=(xs.length-j)*e.size):=hnl
  have s2:Hid (∀u∈news,u.oneCell'=true):=hr.one
  have hle:i*e.size+(xs.length-j)*e.size≤cap*e.size:=by rw[←Nat.add_mul];exact Nat.mul_le_mul_right _ bo%
  have s3:Hid (∀t,t<news.length→(w.drew.cell? ⟨b,o+i*e.size+t,none⟩).isSome=true∧w.drew.frozen? ⟨b,o+i*e.size+t,none⟩=false):=by
   intro t ht
   rw[hnl] at ht
   obtain ⟨⟨v,hv⟩,hf⟩:=hL1.cell (i*e.size+t) bo%
   rw[←Nat.add_assoc] at hv hf
   exact ⟨by rw[hv];rfl,hf⟩
  obtain ⟨W1,hW1⟩:∃W1,W1=w.drew.setCells b (o+i*e.size) news:=⟨_,rfl⟩
  have hW2:W1=setsAt w.drew b (o+i*e.size) news:=hW1.trans (sets_eq b _ _ _)
  have hlen:(xs.take i++xs.drop j).length=i+(xs.length-j):=by rw[List.length_append,List.length_take,List.length_drop];omega
  have hR1:RowAt θ S W1 e (xs.take i++xs.drop j) (.slice (some ⟨b,o,none⟩) (xs.take i++xs.drop j).length cap):=by
   have:=room_rob (w:=w.drew) (ι':=fun _=>.slice (some ⟨b,o,none⟩) (xs.take i++xs.drop j).length cap) (n':=0) (xs:=xs.take i) (ys:=xs.drop j) hbS h0 (by rw[hlen];omega) hr hL1.cell (fun k x hk=>by
    have hk2:k<i:=by have:=(List.getElem?_eq_some_iff.1 hk).1;rw[List.length_take] at this;omega
    rw[List.getElem?_take_of_lt hk2] at hk
    exact hL1.at_ k x hk) rfl
   rw[show (xs.take i).length=i by rw[List.length_take];omega] at this
   rw[hW2];exact this
  have hcap0:=hL.ne
  have hL2:Lies θ S W1 e (xs.take i++xs.drop j) b o cap:=by
   obtain ⟨g0,p',c',g1,g2,g3⟩:=hR1
   simp only[Value.slice.injEq] at g1
   obtain ⟨rfl,_,rfl⟩:=g1
   obtain ⟨b',o',g4,g5,g6⟩:=g3.resolve_left hcap0
   simp only[Option.some.injEq,Addr.mk.injEq,and_true] at g4
   obtain ⟨rfl,rfl⟩:=g4
   exact ⟨g0,g2,hcap0,g5,g6⟩
  have hK1:Keep (fun c=>b=c) w W1:=by
   have s:=sets_keep w.drew b (o+i*e.size) news
   rw[←hW2] at s
   exact ⟨s.os,s.tape,s.output,s.size,s.block⟩
  have hkk:i+(xs.length-j)≠cap:=by omega
  have hcl:∀ty,(Builtin.clear_ #[ρ.t 22] ty #[.slice (some ⟨b,o+(i+(xs.length-j))*e.size,none⟩) (xs.length-(i+(xs.length-j))) (cap-(i+(xs.length-j)))]).run P W1=.ok (.tuple #[]) (setsAt W1 b (o+(i+(xs.length-j))*e.size) (Builtin.zeroCells ⟨zs⟩ (xs.length-(i+(xs.length-j)))).toList):=fun ty =>
   run_clear_at W1 _ _ ty _ t22 vE hz1 b _ _ _ (fun q hq=>by
    have hq:q<(xs.length-(i+(xs.length-j)))*e.size:=by rw[←hzl];exact hq
    have hle2:(i+(xs.length-j))*e.size+(xs.length-(i+(xs.length-j)))*e.size≤cap*e.size:=by rw[←Nat.add_mul];exact Nat.mul_le_mul_right _ bo%
    have:=hL2.cell ((i+(xs.length-j))*e.size+q) bo%
    rwa [←Nat.add_assoc] at this)
  have XL:Aside (Lies θ S W1 e (xs.take i++xs.drop j) b o cap∧Keep (fun c=>b=c) w W1∧(xs.take i++xs.drop j).length=i+(xs.length-j)):=⟨hL2,hK1,hlen⟩
  have hW:Hid (W1=w.drew.setCells b (o+i*e.size) news):=hW1
  have XB:Aside (blk (.slice (some ⟨b,o,none⟩) xs.length cap)=some b):=hblk
  clear hW1 hW2 hL2 hK1 hR1 hL1 hL hat hr hnl hlie hrow0 hVS hblk hlen
  obtain ⟨_,_,FG⟩:=L.f45
  have hic:i≤cap:=by omega
  have hjc:j≤cap:=by omega
  generalize hn:xs.length=n at *
  go_enter FG,SlBodyN.n45_ntmps ρ
  go_wp2_with fail
  go_region_law_o (refine step_append_room rfl (.tmp 22) (.tmp 25) (ρ.t 22) rfl (ρ.t 23) i0 e.size t22 hi0 hsz b o i cap (by simp[Act.eval,Act.put]) A (n-j) (cap-j) news (by simp[Act.eval,Act.put,hA]) s1.out hsrc.out s2.out bo% s3.out ?_;rw[←hW.out])
  go_wp2
  go_ret
  obtain ⟨k1,k2,k3⟩:=XL.out
  have m1:=k1.cut hbS (i+(n-j)) (Builtin.zeroCells ⟨zs⟩ (n-(i+(n-j)))).toList
  rw[List.take_of_length_le (by rw[k3];exact Nat.le_refl _)] at m1
  have m2:=m1.row
  rw[k3] at m2
  have m3:=sets_keep W1 b (o+(i+(n-j))*e.size) (Builtin.zeroCells ⟨zs⟩ (n-(i+(n-j)))).toList
  refine ⟨_,rfl,rfl,m2,⟨m3.os.trans k2.os,m3.tape.trans k2.tape,m3.output.trans k2.output,Nat.le_trans k2.size m3.size,fun k hk hne=>?_⟩,fun c hc=>.inl ?_⟩
  ·have hne':¬b=k:=fun e0=>hne (by rw[XB.out,e0])
   exact (m3.block k (Nat.lt_of_lt_of_le hk k2.size) hne').trans (k2.block k hk hne')
  ·have hc:blk (.slice (some ⟨b,o,none⟩) (i+(n-j)) cap)=some c:=hc
   rw[blk_lies _ _ _ _ hcap0] at hc
   rw[XB.out];exact hc
end Go.VM
namespace Go.VM
open Go Go.Proofs Go.Shelf Go.RowKit Go.Lib
variable {P:Program} {ρ:Ren} {θ:Nat→Value} {S:Nat→Prop} {Γ:Ctx}
def x_slices_Clone {α:Type} (p:List α×Unit):Option (List α×Unit):=if p.1.length≤1000000 then some (p.1,()) else none
set_option maxHeartbeats 2000000 in
set_option maxRecDepth 100000 in
theorem clone_zero (L:SlLaysE0.n41 P ρ) (i0:TypeInfo) (z:Value) (size bytes:Nat) (hi:P.info? (ρ.t 23)=some i0) (hz0:i0.zero=some z) (hz1:i0.size=size) (hz2:i0.bytes=bytes) (hzs:z.cells.size=size) (hsz:0<size)
  (z23:∀w,(Go.sizeOf (ρ.t 23)).run P w=.ok size w) (a:Addr) (c:Nat) (w:World) :
  Calls P (ρ.f 41) #[.slice (some a) 0 c] w fun e w'=>∃v',e=.returned v'∧w'.ownsRow w.heap.size (ρ.t 23) size v' 0 []∧Below w.heap.size w w':=by
 have mixed:=L.mixed;have t4:=L.t4;have a4:=L.a4;have z4:=L.z4;have v4:=L.v4;have t22:=L.t22;have a22:=L.a22;have z22:=L.z22;have v22:=L.v22
 have q22:∀(w:World) (a:Option Addr) (n c n' c':Nat),(binOp .eql (ρ.t 22) (.slice a n c) (.slice none n' c')).run P w=.ok (.bool a.isNone) w:=fun w a n c n' c'=>Lib.run_eql_slice_nil w _ _ a n c n' c' L.t22
 have u22:∀w,Sem.run P (underlying (ρ.t 22)) w=.ok (TypeDesc.slice (ρ.t 23)) w:=run_underlying t22
 obtain ⟨_,_,FG⟩:=L.f41
 go_enter FG,SlBodyN.n41_ntmps ρ
 go_wp2_with (at_builtin;refine wpList_append_own _ rfl _ _ (ρ.t 22) rfl w.heap.size (ρ.t 23) i0 z size bytes t22 hi hz0 hz1 hz2 hzs hsz _ _ _ rfl (World.ownsRow_made w #[] 0 (Nat.le_refl _) (Nat.zero_le _) (by simp)) a 0 c [] rfl ?qc1 ?qc2 ?qc3 ?qc4 ?qc5 ?qc6 ?_)
 case qc1=>simp
 case qc2=>intro j u hj;simp at hj
 case qc3=>intro u hu;cases hu
 case qc4=>simp[maxLen]
 case qc5=>simp
 case qc6=>simp
 intro v' w1 hown hgrow hnil
 go_wp2
 go_ret
 refine ⟨v',rfl,by simpa using hown,?_⟩
 exact ((Below.refl _ w).alloc (Nat.le_refl _) _).grown hgrow (by simp) (by intro k hk;simp[Value.ownBlock] at hk;omega)
theorem rep_news {e:Ty} {w:World} {b:Nat}:∀ {xs:List e.den} {o:Nat},(∀i x,xs[i]? = some x→∃ws,RepC θ S w e x ws∧CellsAt w b (o+i*e.size) ws) →
  ∃news:List Value,news.length=xs.length*e.size∧(∀j u,news[j]? = some u→w.cell? ⟨b,o+j,none⟩=some u) ∧
   (∀i x,xs[i]? = some x→∃ws,RepC θ S w e x ws∧∀j v,ws[j]? = some v→news[i*e.size+j]? = some v)∧∀u∈news,∃x ws,RepC θ S w e x ws∧u∈ws
 | [],o,_=>⟨[],by simp,fun j u h=>by simp at h,fun i x h=>by simp at h,fun u h=>by cases h⟩
 | y :: xs,o,h=>by
  obtain ⟨ws0,r0,c0⟩:=h 0 y rfl
  obtain ⟨news,n1,n2,n3,n4⟩:=rep_news (xs:=xs) (o:=o+e.size) fun i x hx=>by
   obtain ⟨ws,r,c⟩:=h (i+1) x hx
   refine ⟨ws,r,?_⟩
   rwa [Nat.succ_mul,←Nat.add_assoc,Nat.add_right_comm] at c
  have hl:=r0.len
  refine ⟨ws0++news,by rw[List.length_append,n1,hl,List.length_cons,Nat.succ_mul,Nat.add_comm],fun j u hj=>?_,fun i x hx=>?_,fun u hu=>?_⟩
  ·by_cases q:j<ws0.length
   ·rw[List.getElem?_append_left q] at hj
    have:=c0 j u hj
    rwa [Nat.zero_mul,Nat.add_zero] at this
   ·rw[List.getElem?_append_right bo%] at hj
    have:=n2 _ u hj
    rwa [Nat.add_assoc,show e.size+(j-ws0.length)=j by omega] at this
  ·cases i with
   | zero =>
    cases hx
    exact ⟨ws0,r0,fun j v hj=>by rw[Nat.zero_mul,Nat.zero_add,List.getElem?_append_left (List.getElem?_eq_some_iff.1 hj).1];exact hj⟩
   | succ i =>
    obtain ⟨ws,r,c⟩:=n3 i x hx
    refine ⟨ws,r,fun j v hj=>?_⟩
    rw[List.getElem?_append_right (by rw[Nat.succ_mul];omega),Nat.succ_mul,show i*e.size+e.size+j-ws0.length=i*e.size+j by omega]
    exact c j v hj
  ·rcases List.mem_append.1 hu with q | q
   ·exact ⟨y,ws0,r0,q⟩
   ·exact n4 u q
theorem cloneE_own (L:SlLaysE0.n41 P ρ) (e:Ty) (hq:hasOpq e=false) (hb0:0<e.size) (i0:TypeInfo) (z:Value) (bytes:Nat) (hi:P.info? (ρ.t 23)=some i0) (hz0:i0.zero=some z) (hz1:i0.size=e.size) (hz2:i0.bytes=bytes) (hzs:z.cells.size=e.size)
  (hby:bytes≤100000) (z23:∀w,(Go.sizeOf (ρ.t 23)).run P w=.ok e.size w) {w:World} {xs:List e.den} {V:Value} (hS:∀b,S b→b<w.heap.size) (hl:xs.length≤1000000) (hV:RepC θ S w (.lst e) xs [V]) :
  Calls P (ρ.f 41) #[V] w fun en w'=>∃B m d,en=.returned (.slice B m d)∧m≤d∧∀c,m≤c→c≤d→Below w.heap.size w w'∧(Value.slice B m c).oneCell'=true∧(∀b,blk (.slice B m c)=some b→w.heap.size≤b) ∧
   ∀(ι':Nat→Value) (n:Nat),ι' n=.slice B m c→ROb ι' θ S w' n (.row e xs):=by
 obtain ⟨p,cap,hp,hcap,hx⟩:=hV
 obtain rfl:V=.slice p xs.length cap:=by injection hp
 have hml:(1000000:Nat)≤maxLen:=by decide
 have own:∀(v':Value) (w':World) (news:List Value),w'.ownsRow w.heap.size (ρ.t 23) e.size v' xs.length news→Below w.heap.size w w'→(∀i x,xs[i]? = some x→∃ws,RepC θ S w e x ws∧∀j v,ws[j]? = some v→news[i*e.size+j]? = some v) →
   ∃B m d,Ending.returned v'=.returned (.slice B m d)∧m≤d∧∀c,m≤c→c≤d→Below w.heap.size w w'∧(Value.slice B m c).oneCell'=true∧(∀b,blk (.slice B m c)=some b→w.heap.size≤b) ∧
   ∀(ι':Nat→Value) (n:Nat),ι' n=.slice B m c→ROb ι' θ S w' n (.row e xs):=by
  rintro v' w' news ⟨h1,h2⟩ hB hn
  have hsm:Same S w w':=fun b hb=>hB.block b (hS b hb)
  rcases h2 with ⟨rfl,h0⟩ | ⟨g,cap,cur,rfl,hg,hh,hcn,hm,hsz,htk⟩
  ·refine ⟨none,0,0,rfl,Nat.le_refl _,fun c _ hc=>?_⟩
   obtain rfl:c=0:=by omega
   refine ⟨hB,rfl,fun b hb=>(by cases hb),fun ι' n hι=>?_⟩
   obtain rfl:=List.eq_nil_of_length_eq_zero h0
   exact ⟨hb0,none,0,hι,Nat.le_refl _,.inl rfl⟩
  ·refine ⟨_,_,_,rfl,hcn,fun c hc1 hc2=>⟨hB,rfl,fun b hb=>?_,fun ι' n hn'=>⟨hb0,_,c,hn',hc1,.inr ⟨g,0,rfl,fun k hk=>?_,fun i x hx=>?_⟩⟩⟩⟩
   ·simp only[blk] at hb
    split at hb
    ·cases hb
    ·obtain rfl:=Option.some.inj hb;exact hg
   ·have hk2:k<cur.size:=by rw[hsz];exact Nat.lt_of_lt_of_le hk (Nat.mul_le_mul_right _ hc2)
    rw[Nat.zero_add,Lib.cell_of_heap hh]
    exact ⟨⟨_,Array.getElem?_eq_getElem hk2⟩,Lib.frozen_of_heap hh k⟩
   ·obtain ⟨ws,r,hr⟩:=hn i x hx
    refine ⟨ws,r.mono (fun _ h=>h) hsm,fun j v hj=>?_⟩
    have h3:=hr j v hj
    rw[←htk] at h3
    have hlt:=(List.getElem?_eq_some_iff.1 h3).1
    rw[List.getElem?_take_of_lt (by rw[List.length_take] at hlt;omega),Array.getElem?_toList] at h3
    rw[Nat.zero_add,Lib.cell_of_heap hh]
    exact h3
 rcases hx with rfl | ⟨b,o,rfl,hb,hc⟩
 ·cases p with
  | none =>
   refine (AnyE.slices_Clone_nil L _ cap w).mono ?_
   rintro en w' ⟨rfl,rfl⟩
   exact own _ _ [] ⟨by simp,.inl ⟨rfl,rfl⟩⟩ (.refl _ _) (fun i x h=>by simp at h)
  | some a =>
   refine (clone_zero L i0 z e.size bytes hi hz0 hz1 hz2 hzs hb0 z23 a cap w).mono ?_
   rintro en w' ⟨v',rfl,ho,hB⟩
   exact own _ _ [] ho hB (fun i x h=>by simp at h)
 ·obtain ⟨news,n1,n2,n3,n4⟩:=rep_news hc
  refine (AnyE.slices_Clone L i0 z e.size bytes hi hz0 hz1 hz2 hzs hb0 z23 b o xs.length cap news w n1 bo% ?_ n2 ?_).mono ?_
  ·have:=Nat.mul_le_mul hl hby;omega
  ·intro u hu
   obtain ⟨x,ws,r,hm⟩:=n4 u hu
   exact (r.conv (θ':=fun _=>.bool false) (.inr fun _ h=>h) hq).one (fun _=>rfl) u hm
  ·rintro en w' ⟨v',rfl,ho,_,hB⟩
   exact own _ _ news ho hB n3
theorem ext_cloneE {g:Nat} {e:Ty} (he:Enters P g)
  (H:∀(θ:Nat→Value) (S:Nat→Prop) (w:World) (xs:List e.den) (V:Value),(∀b,S b→b<w.heap.size)→xs.length≤1000000→RepC θ S w (.lst e) xs [V] →
   Calls P g #[V] w fun en w'=>∃V,en=.returned V∧Below w.heap.size w w'∧V.oneCell'=true∧(∀b,blk V=some b→w.heap.size≤b)∧∀(ι':Nat→Value) (n:Nat),ι' n=V→ROb ι' θ S w' n (.row e xs)) :
  FnOk P Γ g ⟨[(.lst e,0)],[(.lst e,1)]⟩ x_slices_Clone:=by
 refine fnok_row (fun _=>rfl) rfl (fun _=>rfl) he ?_
 rintro ⟨xs,⟨⟩⟩ ⟨ys,⟨⟩⟩ hF θ S w ι Vs hGl hS hA
 obtain ⟨V,rfl,hV⟩:=all2_one hA
 have hl:xs.length≤1000000∧ys=xs:=by
  simp only[x_slices_Clone] at hF
  split at hF
  ·rename_i h;injection hF with e;injection e with e1 e2;exact ⟨h,e1.symm⟩
  ·cases hF
 obtain ⟨hl,rfl⟩:=hl
 exact H θ S w _ V hS hl hV
end Go.VM
