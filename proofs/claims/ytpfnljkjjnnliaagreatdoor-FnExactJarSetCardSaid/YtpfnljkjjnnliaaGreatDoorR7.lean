/- The plain law: what the models compute answers as the statement says. -/
import Derived.Test.YtpfnljkjjnnliaaGreatDoorR6
import Derived.Test.YtpfnljkjjnnliaaGreatDoorR4
local macro "bo%" : term => `(by omega)
set_option linter.unusedVariables false
set_option linter.unusedSimpArgs false
namespace Go.VM.T
open Go.VM
theorem sn {n k:Nat} (h:4194304+k≤n):∃m,n=m+1:=⟨n-1,by omega⟩
theorem strOf_app (a b:List Int):strOf (a++b)=strOf a++strOf b:=by simp[strOf]
theorem strOf_one (c:UInt8) (v:Int) (h:v=(c.toNat:Int)):strOf [v]=[c]:=by subst h;simp[strOf]
theorem strOf_bytes (s:Bs):strOf (bytesOf s)=s:=by
 induction s with
 | nil=>rfl
 | cons c l ih=>show UInt8.ofNat ((c.toNat:Int)).toNat :: strOf (bytesOf l)=c :: l;rw[ih];simp
theorem bytesOf_len (s:Bs):(bytesOf s).length=s.length:=by simp[bytesOf]
theorem bytesOf_get (s:Bs) (i:Nat) (c:UInt8) (h:s[i]? = some c):(bytesOf s).getD i 0=(c.toNat:Int):=by
 simp[bytesOf,List.getD,h]
theorem impl_in_ok {n:Nat} (hn:4194304+1≤n) (a b c:Int):ci_in n a b c=some (decide (b≤a∧a≤c),()):=by
 obtain ⟨n,rfl⟩:=sn hn
 rw[ei_in];unfold mi_in
 by_cases h:b≤a <;> simp[h]
theorem spec_l1In_ok {n:Nat} (hn:4194304+1≤n) (a b c:Int):cs_l1In n a b c=some (decide (b≤a∧a≤c),()):=by
 obtain ⟨n,rfl⟩:=sn hn
 rw[es_l1In];unfold ms_l1In
 by_cases h:b≤a <;> simp[h]
theorem spec_l1Hex_ok {n:Nat} (hn:4194304+1≤n) (c:UInt8):cs_l1Hex n (c.toNat:Int)=some (hexM c,()):=by
 obtain ⟨n,rfl⟩:=sn hn
 have hc:=byte_le c
 rw[es_l1Hex];unfold ms_l1Hex hexM
 simp only[bif_dec]
 repeat' split
 all_goals first | omega | skip
 all_goals simp (disch:=omega) only [w64,w8]
 all_goals first | rfl | (congr 2;omega)
theorem impl_hex_ok {n:Nat} (hn:4194304+1≤n) (c:UInt8):ci_hex n (c.toNat:Int)=some (hexM c,()):=by
 obtain ⟨n,rfl⟩:=sn hn
 have hc:=byte_le c
 rw[ei_hex];unfold mi_hex hexM
 simp only[bif_dec]
 repeat' split
 all_goals first | omega | skip
 all_goals simp (disch:=omega) only [w64,w8]
 all_goals first | rfl | (congr 2;omega)
theorem digB_int (c:UInt8):digB c=decide (48≤(c.toNat:Int)∧(c.toNat:Int)≤57):=by
 rw[Bool.eq_iff_iff];simp[digB];omega
theorem letB_int (c:UInt8):letB c=decide ((97≤(c.toNat:Int)∧(c.toNat:Int)≤122)∨(65≤(c.toNat:Int)∧(c.toNat:Int)≤90)):=by
 rw[Bool.eq_iff_iff];simp[letB];omega
theorem impl_isDigit_ok {n:Nat} (hn:4194304+1≤n) (c:UInt8):ci_isDigit n (c.toNat:Int)=some (digB c,()):=by
 obtain ⟨n,rfl⟩:=sn hn
 rw[ei_isDigit,digB_int];unfold mi_isDigit
 by_cases h:48≤(c.toNat:Int) <;> simp only[bif_dec,h,if_true,if_false,true_and,false_and,decide_false,decide_true,bif_t,bif_f]
theorem impl_isLetter_ok {n:Nat} (hn:4194304+1≤n) (c:UInt8):ci_isLetter n (c.toNat:Int)=some (letB c,()):=by
 obtain ⟨n,rfl⟩:=sn hn
 rw[ei_isLetter,letB_int];unfold mi_isLetter
 simp only[bif_dec]
 repeat' split
 all_goals congr 2
 all_goals (rw[Bool.eq_iff_iff];simp;try omega)
theorem impl_isSlash_ok {n:Nat} (hn:4194304+1≤n) (c:UInt8):ci_isSlash n (c.toNat:Int)=some (isSl c,()):=by
 obtain ⟨n,rfl⟩:=sn hn
 rw[ei_isSlash];unfold mi_isSlash isSl
 have e1:=byte_is c 47 bo%
 have e2:=byte_is c 92 bo%
 have e1':((c.toNat:Int)=47)↔c=47:=e1
 have e2':((c.toNat:Int)=92)↔c=92:=e2
 simp only[bif_dec,e1',e2']
 by_cases h:c=47 <;> simp[h,beq_dec]
theorem impl_special_ok {n:Nat} (hn:4194304+1≤n) (s:Bs):ci_special n s=some (portS s,decide (0≤portS s),()):=by
 obtain ⟨n,rfl⟩:=sn hn
 rw[ei_special];unfold mi_special portS httpB httpsB
 simp only[beq_dec,bif_dec]
 split
 ·rfl
 ·split <;> rfl
theorem spec_l3Own_ok {n:Nat} (hn:4194304+1≤n) (s:Bs):cs_l3Own n s=some (portS s,()):=by
 obtain ⟨n,rfl⟩:=sn hn
 rw[es_l3Own];unfold ms_l3Own portS httpB httpsB
 simp only[beq_dec,bif_dec]
 split
 ·rfl
 ·split <;> rfl
theorem spec_Lower_ok {n:Nat} (hn:4194304+1≤n) {s:Bs} (hs:s.length≤4000000):cs_Lower n s=some (lowM s,()):=by
 obtain ⟨m,rfl⟩:=sn hn
 rw[es_Lower];unfold ms_Lower
 refine loopR_list (X:=UInt8) (fun l st r=>∃i:Nat,st.2.1=(i:Int)∧s.drop i=l∧i≤s.length∧st.1.length=i∧r=(strOf st.1++lowM l,())) ?_ ?_ s m _ _ ⟨0,rfl,rfl,by omega,rfl,by simp[strOf]⟩ bo%
 ·rintro ⟨out,i0,_⟩ r self ⟨i,hi0,hd,hi,hl,rfl⟩
  have:=at_nil hi hd
  simp only at hi0;subst hi0
  unfold ms_Lower.l0
  simp (disch:=omega) only [bif_dec,if_neg,lowM,List.map_nil,List.append_nil]
 ·rintro x l ⟨out,i0,_⟩ r self ⟨i,hi0,hd,hi,hl,rfl⟩ ih
  obtain ⟨h1,h2,h3⟩:=at_cons hd
  have hb:=bt_get h2;have hx:=byte_le x
  simp only at hi0 hl;subst hi0
  have hlb:=lowB_toNat x
  unfold ms_Lower.l0
  have key:∀v:Int,v=((lowB x).toNat:Int)→self (out++[v],IntKind.i64.wrap ((i:Int)+1),())=some (strOf out++lowM (x :: l),()):=fun v hv =>
   ih _ ⟨i+1,by simp only[];rw[w64 bo% bo%];omega,h3,by omega,by simp;omega,by simp[strOf_app,strOf_one _ _ hv,lowM]⟩
  have hap:out.length+1≤appBound:=by unfold appBound;omega
  simp (disch:=omega) only [bif_dec,grd_dec,hb,if_pos,List.length_singleton,hap,if_true]
  by_cases h65:65≤x.toNat∧x.toNat≤90
  ·rw[if_pos h65] at hlb
   simp (disch:=omega) only [if_pos,w8]
   exact key _ bo%
  ·rw[if_neg h65] at hlb
   by_cases h:(65:Int)≤(x.toNat:Int)
   ·simp (disch:=omega) only [if_pos,if_neg]
    exact key _ bo%
   ·simp (disch:=omega) only [if_neg]
    exact key _ bo%
end Go.VM.T
namespace Go.VM.T
open Go.VM
theorem take_succ' {α:Type} {s:List α} {i:Nat} {x:α} (h:s[i]? = some x):s.take (i+1)=s.take i++[x]:=by
 rw[List.take_add_one,h];rfl
theorem getD_app {α:Type} (A B:List α) (v d:α) (i:Nat) (h:A.length=i):(A++v :: B).getD i d=v:=by subst h;simp[List.getD]
theorem set_app {α:Type} (A B:List α) (v u:α) (i:Nat) (h:A.length=i):(A++v :: B).set i u=A++u :: B:=by subst h;simp
theorem impl_Lower_ok {n:Nat} (hn:4194304+1≤n) {s:Bs} (hs:s.length≤4000000):ci_Lower n s=some (lowM s,()):=by
 obtain ⟨m,rfl⟩:=sn hn
 rw[ei_Lower];unfold mi_Lower
 refine loopS s (fun l i st r=>st.1=(i:Int)∧st.2.1=bytesOf (lowM (s.take i))++bytesOf l∧r=(lowM s,())) ?_ ?_ ⟨rfl,by simp[lowM,bytesOf],rfl⟩ bo%
 ·rintro ⟨i0,row,_⟩ r self ⟨hi0,hr,rfl⟩
  simp only at hi0 hr;subst hi0;subst hr
  unfold mi_Lower.l0
  simp (disch:=omega) only [bytesOf_len,bif_dec,if_neg]
  rw[strOf_app,strOf_bytes,List.take_length]
  simp[bytesOf,strOf]
 ·rintro x l i ⟨i0,row,_⟩ r self hd hi hx ⟨hi0,hr,rfl⟩ ih
  simp only at hi0 hr;subst hi0
  have hlen:row.length=s.length:=by rw[hr];simp[bytesOf_len,lowM_len];have:=congrArg List.length hd;simp at this;omega
  have hb:=byte_le x
  have hA:(bytesOf (lowM (s.take i))).length=i:=by simp[bytesOf_len,lowM_len];omega
  have hg:row.getD i 0=(x.toNat:Int):=by rw[hr];exact getD_app _ _ _ _ _ hA
  have hset:∀v:Int,row.set i v=bytesOf (lowM (s.take i))++v :: bytesOf l:=fun v=>by
   rw[hr];exact set_app _ _ _ _ _ hA
  have hlb:=lowB_toNat x
  have htk:bytesOf (lowM (s.take (i+1)))=bytesOf (lowM (s.take i))++[((lowB x).toNat:Int)]:=by
   rw[take_succ' hx];simp[lowM,bytesOf]
  have key:∀row',row'=bytesOf (lowM (s.take i))++((lowB x).toNat:Int) :: bytesOf l→self (IntKind.i64.wrap ((i:Int)+1),row',())=some (lowM s,()):=fun row' h =>
   ih _ ⟨by simp only[];rw[w64 bo% bo%];omega,by simp only[];rw[h,htk];simp,rfl⟩
  unfold mi_Lower.l0
  simp (disch:=omega) only [bytesOf_len,bif_dec,grd_dec,if_pos,toNat_nat,hg]
  by_cases h65:65≤x.toNat∧x.toNat≤90
  ·rw[if_pos h65] at hlb
   simp (disch:=omega) only [if_pos]
   refine key _ ?_
   rw[hset]
   congr 2
   rw[hlb,IntKind.wrap_u8,IntKind.wrap_u8];omega
  ·rw[if_neg h65] at hlb
   have hk:row=bytesOf (lowM (s.take i))++((lowB x).toNat:Int) :: bytesOf l:=by rw[hr,hlb];simp[bytesOf]
   by_cases h:(65:Int)≤(x.toNat:Int)
   ·simp (disch:=omega) only [if_pos,if_neg]
    exact key _ hk
   ·simp (disch:=omega) only [if_neg]
    exact key _ hk
theorem spec_l1Set_ok {n:Nat} (hn:4194304+1≤n) (k:Int):cs_l1Set n k=some (if k=1 then setP else if k=2 then setQ else if k=3 then setF else if k=5 then setO else if k=4 then setU else [],()):=by
 obtain ⟨n,rfl⟩:=sn hn
 rw[es_l1Set];unfold ms_l1Set
 simp only[bif_dec]
 repeat' split
 all_goals rfl
theorem spec_l1Has_ok {n:Nat} (hn:4194304+1≤n) {s:Bs} (hs:s.length≤4000000) (c:UInt8):cs_l1Has n s (c.toNat:Int)=some (s.contains c,()):=by
 obtain ⟨m,rfl⟩:=sn hn
 rw[es_l1Has];unfold ms_l1Has
 refine loopS s (fun l i st r=>st.1=(i:Int)∧r=(l.contains c,())) ?_ ?_ ⟨rfl,rfl⟩ bo%
 ·rintro ⟨i0,_⟩ r self ⟨hi0,rfl⟩
  simp only at hi0;subst hi0
  unfold ms_l1Has.l0
  simp (disch:=omega) only [bif_dec,if_neg];rfl
 ·rintro x l i ⟨i0,_⟩ r self hd hi hx ⟨hi0,rfl⟩ ih
  simp only at hi0;subst hi0
  unfold ms_l1Has.l0
  simp (disch:=omega) only [bif_dec,grd_dec,if_pos,bt_get hx]
  have e:((x.toNat:Int)=(c.toNat:Int))↔c=x:=by rw[←UInt8.toNat_inj];omega
  simp only[e]
  split
  ·rename_i h;simp[h]
  ·rename_i h
   exact ih (IntKind.i64.wrap ((i:Int)+1),()) ⟨by simp only[];rw[w64 bo% bo%];omega,by simp[h]⟩
theorem spec_l1Figure_ok {n:Nat} (hn:4194304+1≤n) (k:Nat) (hk:k<16):cs_l1Figure n (k:Int)=some (((hexU k).toNat:Int),()):=by
 obtain ⟨n,rfl⟩:=sn hn
 rw[es_l1Figure];unfold ms_l1Figure
 have:k=0∨k=1∨k=2∨k=3∨k=4∨k=5∨k=6∨k=7∨k=8∨k=9∨k=10∨k=11∨k=12∨k=13∨k=14∨k=15:=by omega
 rcases this with h | h | h | h | h | h | h | h | h | h | h | h | h | h | h | h <;> subst h <;> rfl
theorem spec_l1At_in {m:Nat} (any:Bs) (ha:any.length<m) (ha':any.length≤4000000) (s:Bs) (i:Nat) (c:UInt8) (hc:s[i]? = some c) (f:(Int×Unit)→Option (Int×Unit)) (r:Int×Unit)
  (hr:(if any.contains c=true then some ((i:Int),()) else f (IntKind.i64.wrap ((i:Int)+1),()))=some r) :
  loopR (ms_l1At.l0 m any ((i:Int),()) s f) m ((0:Int),())=some r:=by
 have hi:i<s.length:=(List.getElem?_eq_some_iff.1 hc).1
 refine loopS any (fun l j st r=>st.1=(j:Int)∧(if l.contains c=true then some ((i:Int),()) else f (IntKind.i64.wrap ((i:Int)+1),()))=some r) ?_ ?_ ⟨rfl,hr⟩ bo%
 ·rintro ⟨i0,_⟩ r self ⟨hi0,h⟩
  simp only at hi0;subst hi0
  unfold ms_l1At.l0
  simp (disch:=omega) only [bif_dec,if_neg]
  simpa using h
 ·rintro x l j ⟨i0,_⟩ r self hd hj hx ⟨hi0,h⟩ ih
  simp only at hi0;subst hi0
  unfold ms_l1At.l0
  simp (disch:=omega) only [bif_dec,grd_dec,if_pos,bt_get hx,bt_get hc]
  have e:((c.toNat:Int)=(x.toNat:Int))↔c=x:=by rw[←UInt8.toNat_inj];omega
  simp only[e]
  split
  ·rename_i h1;subst h1;simpa using h
  ·rename_i h1
   refine ih _ ⟨?_,?_⟩
   ·simp only[];rw[w64 bo% bo%];omega
   ·simpa [h1] using h
theorem spec_l1At_ok {n:Nat} (hn:4194304+1≤n) {s any:Bs} (hs:s.length≤4000000) (ha:any.length≤4000000):cs_l1At n s any=some (((atM any s).length:Int),()):=by
 obtain ⟨m,rfl⟩:=sn hn
 rw[es_l1At];unfold ms_l1At
 refine loopS s (fun l i st r=>st.1=(i:Int)∧r=(((i+(atM any l).length:Nat):Int),())) ?_ ?_ ⟨rfl,by simp⟩ bo%
 ·rintro ⟨i0,_⟩ r self ⟨hi0,rfl⟩
  simp only at hi0;subst hi0
  unfold ms_l1At.l1
  simp (disch:=omega) only [bif_dec,if_neg,atM,List.takeWhile_nil,List.length_nil,Nat.add_zero]
 ·rintro x l i ⟨i0,_⟩ r self hd hi hx ⟨hi0,rfl⟩ ih
  simp only at hi0;subst hi0
  unfold ms_l1At.l1
  simp (disch:=omega) only [bif_dec,if_pos]
  refine spec_l1At_in any bo% ha s i x hx self _ ?_
  split
  ·rename_i h;simp only[atM,List.takeWhile_cons,h,Bool.not_true,Bool.false_eq_true,if_false,List.length_nil,Nat.add_zero]
  ·rename_i h
   refine ih _ ⟨?_,?_⟩
   ·simp only[];rw[w64 bo% bo%];omega
   ·have h':any.contains x=false:=by simpa using h
    simp only[atM,List.takeWhile_cons,h',Bool.not_false,if_true,List.length_cons]
    congr 2;omega
end Go.VM.T
namespace Go.VM.T
open Go.VM
theorem w_i {i:Nat} (h:i≤4000000):IntKind.i64.wrap ((i:Int)+1)=((i+1:Nat):Int):=by rw[w64 bo% bo%];omega
theorem ap_le {k:Nat} (h:k≤68719476736):k≤appBound:=h
theorem strOf_three (a b c:UInt8):strOf [(a.toNat:Int),(b.toNat:Int),(c.toNat:Int)]=[a,b,c]:=by simp[strOf]
theorem i64b (c:UInt8):IntKind.i64.wrap (c.toNat:Int)=(c.toNat:Int):=by have:=byte_le c;exact w64 bo% bo%
theorem div16 (c:UInt8):IntKind.i64.wrap ((c.toNat:Int).tdiv 16)=((c.toNat / 16:Nat):Int):=by
 have:=byte_le c
 rw[Int.tdiv_eq_ediv_of_nonneg bo%,w64 bo% bo%];omega
theorem mod16 (c:UInt8):(c.toNat:Int).tmod 16=((c.toNat % 16:Nat):Int):=by
 have:=byte_le c
 rw[Int.tmod_eq_emod_of_nonneg bo%];omega
theorem spec_Encode_ok {n:Nat} (hn:4194304+2≤n) {s:Bs} (hs:s.length≤200) {k:Int} {any:Bs} (ha:any.length≤200) (hk:(if k=1 then setP else if k=2 then setQ else if k=3 then setF else if k=5 then setO else if k=4 then setU else [])=any):cs_Encode n k s=some (encM any s,()):=by
 obtain ⟨m,rfl⟩:=sn hn
 rw[es_Encode];unfold ms_Encode
 rw[spec_l1Set_ok bo%,hk,Option.bind_some]
 refine loopS s (fun l i st r=>st.2.1=(i:Int)∧st.1.length≤3*i∧r=(strOf st.1++encM any l,())) ?_ ?_ ⟨rfl,by simp,by simp[strOf]⟩ bo%
 ·rintro ⟨out,i0,_⟩ r self ⟨hi0,hl,rfl⟩
  simp only at hi0 hl;subst hi0
  unfold ms_Encode.l0
  simp (disch:=omega) only [bif_dec,if_neg,encM,List.flatMap_nil,List.append_nil]
 ·rintro x l i ⟨out,i0,_⟩ r self hd hi hx ⟨hi0,hl,rfl⟩ ih
  simp only at hi0 hl;subst hi0
  have hb:=byte_le x
  unfold ms_Encode.l0
  have he:encM any (x :: l)=encB any x++encM any l:=by simp[encM]
  have k1:encB any x=[x]→self (out++[(x.toNat:Int)],IntKind.i64.wrap ((i:Int)+1),())=some (strOf out++encM any (x :: l),()):=fun h =>
   ih _ ⟨w_i bo%,by simp;omega,by rw[he,h];simp[strOf_app,strOf_one _ _ rfl]⟩
  have k3:encB any x=[37,hexU (x.toNat / 16),hexU (x.toNat % 16)]→self (out++[37,((hexU (x.toNat / 16)).toNat:Int),((hexU (x.toNat % 16)).toNat:Int)],IntKind.i64.wrap ((i:Int)+1),())=some (strOf out++encM any (x :: l),()):=fun h =>
   ih _ ⟨w_i bo%,by simp;omega,by rw[he,h];simp only[];rw[strOf_app,show ([(37:Int),((hexU (x.toNat / 16)).toNat:Int),((hexU (x.toNat % 16)).toNat:Int)])=[((37:UInt8).toNat:Int),((hexU (x.toNat / 16)).toNat:Int),((hexU (x.toNat % 16)).toNat:Int)] from rfl,strOf_three,List.append_assoc]⟩
  have hap1:out.length+1≤appBound:=ap_le bo%
  have hap3:out.length+3≤appBound:=ap_le bo%
  simp (disch:=omega) only [bif_dec,grd_dec,grd_ndec,if_pos,if_neg,bt_get hx,i64b,div16,mod16,spec_l1Figure_ok,spec_l1Has_ok,Option.bind_some,List.length_cons,List.length_nil,Nat.zero_add,hap1,hap3,if_true,Nat.reduceAdd]
  by_cases h1:(x.toNat:Int)<32
  ·rw[if_pos h1];exact k3 (by unfold encB;rw[if_pos bo%])
  ·rw[if_neg h1]
   by_cases h2:(126:Int)<(x.toNat:Int)
   ·rw[if_pos h2];exact k3 (by unfold encB;rw[if_pos bo%])
   ·rw[if_neg h2,bif_ite]
    by_cases h3:any.contains x=true
    ·rw[if_pos h3];exact k3 (by unfold encB;rw[if_pos (.inr (.inr h3))])
    ·rw[if_neg h3];exact k1 (by unfold encB;rw[if_neg (by rintro (h | h | h) <;> first | omega | exact h3 h)])
theorem seg_succ {s:Bs} {fr i:Nat} {c:UInt8} (hfr:fr≤i) (h:s[i]? = some c):(s.take (i+1)).drop fr=(s.take i).drop fr++[c]:=by
 have hi:i<s.length:=(List.getElem?_eq_some_iff.1 h).1
 rw[take_succ' h,List.drop_append_of_le_length (by simp;omega)]
theorem seg_self (s:Bs) (i:Nat):(s.take i).drop i=[]:=by
 rw[List.drop_eq_nil_iff];simp;omega
def cutW (c:UInt8) (a l:Bs):List Bs:=(a++(cutM c l).headD []) :: (cutM c l).tail
theorem cutW_nil (c:UInt8) (l:Bs):cutW c [] l=cutM c l:=by unfold cutW;rw[List.nil_append,←cutM_ne]
theorem cutW_eq (c:UInt8) (a l:Bs):cutW c a (c :: l)=a :: cutM c l:=by unfold cutW;simp[cutM]
theorem cutW_ne {c x:UInt8} (h:¬x=c) (a l:Bs):cutW c a (x :: l)=cutW c (a++[x]) l:=by unfold cutW;simp[cutM,h]
theorem spec_l1Cut_ok {n:Nat} (hn:4194304+1≤n) {s:Bs} (hs:s.length≤4000000) (c:UInt8):cs_l1Cut n s (c.toNat:Int)=some (cutM c s,()):=by
 obtain ⟨m,rfl⟩:=sn hn
 rw[es_l1Cut];unfold ms_l1Cut
 refine loopS s (fun l i st r=>∃fr:Nat,st.2.2.1=(i:Int)∧st.2.1=(fr:Int)∧fr≤i∧st.1.length≤i∧r=(st.1++cutW c ((s.take i).drop fr) l,())) ?_ ?_ ⟨0,rfl,rfl,by omega,by simp,by simp[cutW_nil]⟩ bo%
 ·rintro ⟨out,f0,i0,_⟩ r self ⟨fr,hi0,hf0,hfr,hl,rfl⟩
  simp only at hi0 hf0 hl;subst hi0;subst hf0
  unfold ms_l1Cut.l0
  have hap1:out.length+1≤appBound:=ap_le bo%
  simp (disch:=omega) only [bif_dec,grd_dec,if_neg,if_pos,List.length_cons,List.length_nil,Nat.zero_add,hap1,if_true,toNat_nat]
  simp[cutW,cutM]
 ·rintro x l i ⟨out,f0,i0,_⟩ r self hd hi hx ⟨fr,hi0,hf0,hfr,hl,rfl⟩ ih
  simp only at hi0 hf0 hl;subst hi0;subst hf0
  unfold ms_l1Cut.l0
  have hap1:out.length+1≤appBound:=ap_le bo%
  have e:((x.toNat:Int)=(c.toNat:Int))↔x=c:=by rw[←UInt8.toNat_inj];omega
  simp (disch:=omega) only [bif_dec,grd_dec,if_pos,bt_get hx,e,List.length_cons,List.length_nil,Nat.zero_add,hap1,if_true,toNat_nat]
  split
  ·rename_i h;subst h
   exact ih _ ⟨i+1,w_i bo%,w_i bo%,by omega,by simp;omega,by rw[cutW_eq,seg_self,cutW_nil];simp⟩
  ·rename_i h
   exact ih _ ⟨fr,w_i bo%,rfl,by omega,by simp only[];omega,by simp only[];rw[cutW_ne h,seg_succ hfr hx]⟩
theorem parts_last {ps:List Bs} (h:1≤ps.length):ps.getLast? = some (ps.getD (ps.length-1) []):=by
 rw[List.getLast?_eq_getElem?]
 have:ps.length-1<ps.length:=by omega
 simp[List.getD,this]
theorem labels_of {s:Bs} {ps:List Bs} (e:cutM 46 s=ps) (h1:ps.length≤5000000) :
  (bif (decide ((1:Int)<(ps.length:Int))) then (grd (decide (0≤(IntKind.i64.wrap ((ps.length:Int)-(1:Int))))) (grd (decide ((IntKind.i64.wrap ((ps.length:Int)-(1:Int)))<(ps.length:Int))) (bif ((ps.getD (IntKind.i64.wrap ((ps.length:Int)-(1:Int))).toNat ([]:Bs))==([]:Bs)) then (grd (decide (0≤(IntKind.i64.wrap ((ps.length:Int)-(1:Int))))) (grd (decide ((IntKind.i64.wrap ((ps.length:Int)-(1:Int)))≤(ps.length:Int))) (some (((ps.take (IntKind.i64.wrap ((ps.length:Int)-(1:Int))).toNat).drop 0),())))) else (some (ps,()))))) else (some (ps,())))=some (labelsM s,()):=by
 have h0:1≤ps.length:=e ▸ cut_len_pos 46 s
 unfold labelsM
 rw[e]
 have hw:IntKind.i64.wrap ((ps.length:Int)-1)=((ps.length-1:Nat):Int):=by rw[w64 bo% bo%];omega
 simp (disch:=omega) only [hw,bif_dec,grd_dec,if_pos,beq_dec,toNat_nat,parts_last h0,Option.some.injEq,List.drop_zero]
 by_cases h2:1<ps.length
 ·rw[if_pos bo%]
  by_cases h3:ps.getD (ps.length-1) []=[]
  ·rw[if_pos h3,if_pos ⟨h2,h3⟩,List.dropLast_eq_take]
  ·rw[if_neg h3,if_neg (fun h=>h3 h.2)]
 ·rw[if_neg bo%,if_neg (fun h=>h2 h.1)]
theorem spec_l2Parts_ok {n:Nat} (hn:4194304+2≤n) {s:Bs} (hs:s.length≤4000000):cs_l2Parts n s=some (labelsM s,()):=by
 obtain ⟨m,rfl⟩:=sn hn
 rw[es_l2Parts];unfold ms_l2Parts
 rw[show (46:Int)=((46:UInt8).toNat:Int) from rfl,spec_l1Cut_ok bo% hs,Option.bind_some]
 exact labels_of (ps:=cutM 46 s) rfl (by have:=cutM_len 46 s;omega)
theorem strings_Split_ok {n:Nat} (hn:4194304+1≤n) {s:Bs} (hs:s.length≤4000000) (c:UInt8):c_strings_Split n s [c]=some (cutM c s,()):=by
 obtain ⟨m,rfl⟩:=sn hn
 rw[eq_strings_Split];unfold x_strings_Split
 simp only[]
 rw[if_pos (by unfold fits;omega)]
theorem impl_labels_ok {n:Nat} (hn:4194304+2≤n) {s:Bs} (hs:s.length≤4000000):ci_labels n s=some (labelsM s,()):=by
 obtain ⟨m,rfl⟩:=sn hn
 rw[ei_labels];unfold mi_labels
 rw[strings_Split_ok bo% hs,Option.bind_some]
 exact labels_of (ps:=cutM 46 s) rfl (by have:=cutM_len 46 s;omega)
theorem slices_Index_ok {n:Nat} (hn:4194304+1≤n) {l:List Bs} (hl:l.length≤4000000) (c:Bs):∃k:Int,c_slices_Index_string n l c=some (k,())∧decide (0≤k)=l.contains c:=by
 obtain ⟨m,rfl⟩:=sn hn
 rw[eq_slices_Index_string];unfold m_slices_Index_string
 have key:∃k:Int,loopR (m_slices_Index_string.l0 m l c) m ((0:Int),())=some (k,())∧decide (0≤k)=l.contains c:=by
  by_cases hc:l.contains c=true
  ·obtain ⟨k,hk,hkl⟩:∃k,k<l.length∧(l.getD k []=c∧∀j,j<k→l.getD j []≠c):=by
    have:∃k,k<l.length∧l.getD k []=c:=by
     have:=List.contains_iff_mem.1 hc
     obtain ⟨k,hk,he⟩:=List.getElem_of_mem this
     exact ⟨k,hk,by simp[List.getD,hk,he]⟩
    obtain ⟨k,h⟩:=this
    induction k using Nat.strongRecOn with
    | _ k ih =>
     by_cases q:∃j,j<k∧l.getD j []=c
     ·obtain ⟨j,h1,h2⟩:=q;exact ih j h1 ⟨by omega,h2⟩
     ·exact ⟨k,h.1,h.2,fun j hj he=>q ⟨j,hj,he⟩⟩
   refine ⟨(k:Int),?_,by rw[hc];simp⟩
   refine loopS l (fun r i st q=>st.1=(i:Int)∧i≤k∧q=((k:Int),())) ?_ ?_ ⟨rfl,by omega,rfl⟩ bo%
   ·rintro ⟨i0,_⟩ r self ⟨_,h,_⟩;omega
   ·rintro x r i ⟨i0,_⟩ q self hd hi hx ⟨hi0,hik,rfl⟩ ih
    simp only at hi0;subst hi0
    unfold m_slices_Index_string.l0
    simp (disch:=omega) only [bif_dec,grd_dec,if_pos,toNat_nat,beq_dec]
    split
    ·rename_i h
     have:¬i<k:=fun q=>hkl.2 i q h.symm
     have:i=k:=by omega
     subst this;rfl
    ·rename_i h
     have:i≠k:=fun q=>h (by rw[q];exact hkl.1.symm)
     exact ih _ ⟨w_i bo%,by omega,rfl⟩
  ·refine ⟨-1,?_,by simp at hc;simp[hc]⟩
   refine loopS l (fun r i st q=>st.1=(i:Int)∧q=(-1,())) ?_ ?_ ⟨rfl,rfl⟩ bo%
   ·rintro ⟨i0,_⟩ q self ⟨hi0,rfl⟩
    simp only at hi0;subst hi0
    unfold m_slices_Index_string.l0
    simp (disch:=omega) only [bif_dec,if_neg]
   ·rintro x r i ⟨i0,_⟩ q self hd hi hx ⟨hi0,rfl⟩ ih
    simp only at hi0;subst hi0
    unfold m_slices_Index_string.l0
    simp (disch:=omega) only [bif_dec,grd_dec,if_pos,toNat_nat,beq_dec,getD_get _ hx]
    have:¬c=x:=fun q=>hc (by rw[q];exact List.contains_iff_mem.2 (List.mem_of_getElem? hx))
    rw[if_neg this]
    exact ih _ ⟨w_i bo%,rfl⟩
 exact key
theorem slices_Contains_ok {n:Nat} (hn:4194304+2≤n) {l:List Bs} (hl:l.length≤4000000) (c:Bs):c_slices_Contains_string n l c=some (l.contains c,()):=by
 obtain ⟨m,rfl⟩:=sn hn
 rw[eq_slices_Contains_string];unfold m_slices_Contains_string
 obtain ⟨k,h1,h2⟩:=slices_Index_ok (n:=m) bo% hl c
 rw[h1,Option.bind_some,←h2]
end Go.VM.T
namespace Go.VM.T
open Go.VM
def nameB (c:UInt8):Bool:=c==46||nb c
theorem b_is (c:UInt8) (k:Nat) (hk:k<256):(c==UInt8.ofNat k)=decide ((c.toNat:Int)=(k:Int)):=by
 rw[beq_dec,decide_eq_decide];exact (byte_is c k hk).symm
theorem nb_int (c:UInt8):nb c=decide ((97≤(c.toNat:Int)∧(c.toNat:Int)≤122)∨(48≤(c.toNat:Int)∧(c.toNat:Int)≤57)∨(c.toNat:Int)=45∨(c.toNat:Int)=95):=by
 have e1:(c==45)=decide ((c.toNat:Int)=45):=b_is c 45 bo%
 have e2:(c==95)=decide ((c.toNat:Int)=95):=b_is c 95 bo%
 unfold nb
 rw[e1,e2,Bool.eq_iff_iff]
 simp;omega
theorem nameB_int (c:UInt8):nameB c=decide ((c.toNat:Int)=46∨(97≤(c.toNat:Int)∧(c.toNat:Int)≤122)∨(48≤(c.toNat:Int)∧(c.toNat:Int)≤57)∨(c.toNat:Int)=45∨(c.toNat:Int)=95):=by
 have e1:(c==46)=decide ((c.toNat:Int)=46):=b_is c 46 bo%
 unfold nameB
 rw[e1,nb_int,Bool.eq_iff_iff]
 simp
theorem impl_isHostName_ok {n:Nat} (hn:4194304+3≤n) {s:Bs} (hs:s.length≤3000000):ci_isHostName n s=some (isNameM s,()):=by
 obtain ⟨m,rfl⟩:=sn hn
 rw[ei_isHostName];unfold mi_isHostName
 refine loopS s (fun l i st r=>st.1=(i:Int)∧r=((l.all nameB&&decide (1≤s.length)&&decide (s.length≤60) && !(labelsM s).contains []),())) ?_ ?_ ⟨rfl,rfl⟩ bo%
 ·rintro ⟨i0,_⟩ r self ⟨hi0,rfl⟩
  simp only at hi0;subst hi0
  unfold mi_isHostName.l0
  have hl:=labels_len s
  simp (disch:=omega) only [bif_dec,if_neg,impl_in_ok,impl_labels_ok,slices_Contains_ok,Option.bind_some,List.all_nil,Bool.true_and]
  by_cases h:1≤s.length∧s.length≤60
  ·rw[if_pos bo%,decide_eq_true h.1,decide_eq_true h.2];simp
  ·rw[if_neg bo%]
   rcases Nat.lt_or_ge s.length 1 with h1 | h1
   ·rw[decide_eq_false bo%];simp
   ·rw[decide_eq_false (p:=s.length≤60) bo%];simp
 ·rintro x l i ⟨i0,_⟩ r self hd hi hx ⟨hi0,rfl⟩ ih
  simp only at hi0;subst hi0
  have hb:=byte_le x
  unfold mi_isHostName.l0
  have good:nameB x=true→self (IntKind.i64.wrap ((i:Int)+1),())=some (((x :: l).all nameB&&decide (1≤s.length)&&decide (s.length≤60) && !(labelsM s).contains []),()):=fun h =>
   ih _ ⟨w_i bo%,by simp[h]⟩
  have bad:nameB x=false→some (false,())=some (((x :: l).all nameB&&decide (1≤s.length)&&decide (s.length≤60) && !(labelsM s).contains []),()):=fun h=>by simp[h]
  rw[nameB_int] at good bad
  simp (disch:=omega) only [bif_dec,bif_ndec,grd_dec,if_pos,bt_get hx,impl_isDigit_ok,digB_int,Option.bind_some]
  repeat' split
  all_goals first | exact good (decide_eq_true bo%) | exact bad (decide_eq_false bo%)
theorem l2Name_in {m:Nat} (ps:List Bs) (i:Nat) (p:Bs) (hp:ps[i]? = some p) (hps:ps.length≤4000000) (hpl:p.length≤4000000) (hm:4194304≤m) (f:(Int×Unit)→Option (Bool×Unit)) (r:Bool×Unit)
  (hr:(if p.all nb=true then f (IntKind.i64.wrap ((i:Int)+1),()) else some (false,()))=some r) :
  loopR (ms_l2Name.l1 m ((i:Int),()) (ps,()) f) m ((0:Int),())=some r:=by
 have hi:i<ps.length:=(List.getElem?_eq_some_iff.1 hp).1
 refine loopS p (fun l j st r=>st.1=(j:Int)∧(if l.all nb=true then f (IntKind.i64.wrap ((i:Int)+1),()) else some (false,()))=some r) ?_ ?_ ⟨rfl,hr⟩ bo%
 ·rintro ⟨i0,_⟩ r self ⟨hi0,h⟩
  simp only at hi0;subst hi0
  unfold ms_l2Name.l1
  simp (disch:=omega) only [bif_dec,grd_dec,if_pos,toNat_nat,getD_get _ hp,if_neg]
  simpa using h
 ·rintro x l j ⟨i0,_⟩ r self hd hj hx ⟨hi0,h⟩ ih
  simp only at hi0;subst hi0
  have hb:=byte_le x
  unfold ms_l2Name.l1
  have good:nb x=true→self (IntKind.i64.wrap ((j:Int)+1),())=some r:=fun q=>ih _ ⟨w_i bo%,by simpa [q] using h⟩
  have bad:nb x=false→some (false,())=some r:=fun q=>by simpa [q] using h
  rw[nb_int] at good bad
  simp (disch:=omega) only [bif_dec,bif_ndec,grd_dec,if_pos,toNat_nat,getD_get _ hp,bt_get hx]
  repeat' split
  all_goals first | exact good (decide_eq_true bo%) | exact bad (decide_eq_false bo%)
theorem l2Name_in0 {m:Nat} (y:List Bs×Unit) (f:(Int×Unit)→Option (Bool×Unit)) (s2:Int×Unit):loopR (ms_l2Name.l0 m s2 y f) m ((0:Int),())=loopR (ms_l2Name.l1 m s2 y f) m ((0:Int),()):=rfl
theorem spec_l2Name_ok {n:Nat} (hn:4194304+2≤n) {s:Bs} (hs:s.length≤3000000):cs_l2Name n s=some (isNameM s,()):=by
 obtain ⟨m,rfl⟩:=sn hn
 rw[es_l2Name];unfold ms_l2Name
 rw[show (46:Int)=((46:UInt8).toNat:Int) from rfl,spec_l1Cut_ok bo% bo%,Option.bind_some,←names_eq]
 have hcl:=cutM_len 46 s
 have hcm:∀p∈cutM 46 s,p.length≤s.length:=fun p h=>cutM_sub 46 s p h
 generalize cutM 46 s=ps at hcl hcm
 refine loopS ps (fun l i st r=>st.1=(i:Int)∧r=((((l.all fun p=>p.all nb) && !((l.zipIdx i).any fun p=>p.1==[]&&(decide (p.2+1<ps.length)||p.2==0)))&&(decide (1≤s.length)&&decide (s.length≤60))),())) ?_ ?_ ⟨rfl,rfl⟩ bo%
 ·rintro ⟨i0,_⟩ r self ⟨hi0,rfl⟩
  simp only at hi0;subst hi0
  unfold ms_l2Name.l2
  simp (disch:=omega) only [bif_dec,if_neg,spec_l1In_ok,Option.bind_some]
  congr 2
  rw[Bool.eq_iff_iff];simp;omega
 ·rintro x l i ⟨i0,⟨⟩⟩ r self hd hi hx ⟨hi0,rfl⟩ ih
  simp only at hi0;subst hi0
  unfold ms_l2Name.l2
  have hxl:x.length≤3000000:=by have:=hcm x (List.mem_of_getElem? hx);omega
  have hw:IntKind.i64.wrap ((ps.length:Int)-1)=((ps.length-1:Nat):Int):=by rw[w64 bo% bo%];omega
  simp (disch:=omega) only [bif_dec,grd_dec,if_pos,toNat_nat,getD_get _ hx,beq_dec x [],hw,l2Name_in0]
  have tail:∀q:Bool,(x=[]∧(i+1<ps.length∨i=0)↔q=true)→q=false →
    loopR (ms_l2Name.l1 m ((i:Int),()) (ps,()) self) m ((0:Int),())=some ((((x :: l).all fun p=>p.all nb) && !(((x :: l).zipIdx i).any fun p=>p.1==[]&&(decide (p.2+1<ps.length)||p.2==0)))&&(decide (1≤s.length)&&decide (s.length≤60)),()):=fun q h1 h2=>by
   have hno:¬(x=[]∧(i+1<ps.length∨i=0)):=fun h=>by rw[h1.1 h] at h2;cases h2
   have hq:(x==[]&&(decide (i+1<ps.length)||i==0))=false:=by
    rw[Bool.eq_false_iff];intro h;apply hno;simpa using h
   refine l2Name_in ps i x hx bo% bo% bo% self _ ?_
   split
   ·rename_i h
    refine ih _ ⟨w_i bo%,?_⟩
    simp only[List.all_cons,List.zipIdx_cons,List.any_cons,hq,h,Bool.true_and,Bool.false_or]
   ·rename_i h
    have h:x.all nb=false:=by simpa using h
    simp only[List.all_cons,h,Bool.false_and]
  split
  ·rename_i h
   subst h
   have bad:(i+1<ps.length∨i=0)→some (false,())=some (((((([]:Bs) :: l).all fun p=>p.all nb) && !(((([]:Bs) :: l).zipIdx i).any fun p=>p.1==[]&&(decide (p.2+1<ps.length)||p.2==0)))&&(decide (1≤s.length)&&decide (s.length≤60))),()):=fun h=>by
    have hq:(([]:Bs)==[]&&(decide (i+1<ps.length)||i==0))=true:=by simpa using h
    simp only[List.zipIdx_cons,List.any_cons,hq,Bool.true_or,Bool.not_true,Bool.and_false,Bool.false_and]
   split
   ·exact bad (.inl bo%)
   ·split
    ·exact bad (.inr bo%)
    ·exact tail false ⟨fun h=>by omega,fun h=>by cases h⟩ rfl
  ·rename_i h
   exact tail false ⟨fun q=>absurd q.1 h,fun q=>by cases q⟩ rfl
end Go.VM.T
namespace Go.VM.T
open Go.VM
theorem dig_step (v b d:Int) (hb:2≤b∧b≤16) (h0:0≤v) (h1:v≤4294967295) (hd:0≤d∧d<b):IntKind.i64.wrap (IntKind.i64.wrap (v*b)+d)=v*b+d∧IntKind.i64.wrap (IntKind.i64.wrap (b*v)+d)=v*b+d∧0≤v*b+d∧v*b+d≤68719476735:=by
 have h2:v*b≤4294967295*16:=Int.mul_le_mul h1 hb.2 bo% bo%
 have h3:0≤v*b:=Int.mul_nonneg h0 bo%
 have h4:v*b+d≤68719476735:=by
  have:v*b≤4294967295*b:=Int.mul_le_mul_of_nonneg_right h1 bo%
  omega
 rw[Int.mul_comm b v,w64 (x:=v*b) bo% bo%,w64 bo% bo%]
 exact ⟨rfl,rfl,by omega,h4⟩
theorem digM_n {b v:Int} {x:UInt8} {l:Bs} (h:hexM x<0∨b≤hexM x∨4294967295<v):digM b v (x :: l)=none:=by simp only[digM];rw[if_pos h]
theorem digM_s {b v:Int} {x:UInt8} {l:Bs} (h:¬(hexM x<0∨b≤hexM x∨4294967295<v)):digM b v (x :: l)=digM b (v*b+hexM x) l:=by simp only[digM];rw[if_neg h]
theorem spec_l2Digits_ok {n:Nat} (hn:4194304+2≤n) {s:Bs} (hs:s.length≤4000000) {b:Int} (hb:2≤b∧b≤16):cs_l2Digits n s b=some ((digM b 0 s).getD (-1),()):=by
 obtain ⟨m,rfl⟩:=sn hn
 rw[es_l2Digits];unfold ms_l2Digits
 refine loopS s (fun l i st r=>st.2.1=(i:Int)∧0≤st.1∧st.1≤68719476735∧r=((digM b st.1 l).getD (-1),())) ?_ ?_ ⟨rfl,by simp,by simp,rfl⟩ bo%
 ·rintro ⟨v,i0,⟨⟩⟩ r self ⟨hi0,h0,h1,rfl⟩
  simp only at hi0;subst hi0
  unfold ms_l2Digits.l0
  simp (disch:=omega) only [bif_dec,if_neg,digM,Option.getD_some]
 ·rintro x l i ⟨v,i0,⟨⟩⟩ r self hd hi hx ⟨hi0,h0,h1,rfl⟩ ih
  simp only at hi0 h0 h1;subst hi0
  have hr:=hexM_range x
  unfold ms_l2Digits.l0
  simp (disch:=omega) only [bif_dec,grd_dec,if_pos,bt_get hx,spec_l1Hex_ok,Option.bind_some]
  split
  ·rename_i h;rw[digM_n (.inl h)];rfl
  ·split
   ·rename_i h;rw[digM_n (.inr (.inl h))];rfl
   ·split
    ·rename_i h;rw[digM_n (.inr (.inr h))];rfl
    ·rename_i g1 g2 g3
     have hd:=digM_s (b:=b) (v:=v) (x:=x) (l:=l) (by rintro (h | h | h) <;> omega)
     obtain ⟨e1,e2,e3,e4⟩:=dig_step v b (hexM x) hb h0 bo% ⟨by omega,by omega⟩
     exact ih (_,_,()) ⟨w_i bo%,by simp only[];omega,by simp only[];omega,by simp only[];rw[e1,hd]⟩
theorem bt_0 (c:UInt8) (l:Bs):bt (c :: l) 0=(c.toNat:Int):=bt_get (s:=c :: l) (i:=0) rfl
theorem bt_1 (c d:UInt8) (l:Bs):bt (c :: d :: l) 1=(d.toNat:Int):=bt_get (s:=c :: d :: l) (i:=1) rfl
theorem take_all (s:Bs) (k:Nat):(s.take s.length).drop k=s.drop k:=by rw[List.take_length]
theorem c_int (c:UInt8) (k:Nat) (hk:k<256):((c.toNat:Int)=(k:Int))=(c=UInt8.ofNat k):=propext (byte_is c k hk)
theorem bind_some' {A:Type} (x:Option (A×Unit)):(x.bind fun y=>some y)=x:=by cases x <;> rfl
theorem c48 (c:UInt8):((c.toNat:Int)=48)=(c=48):=c_int c 48 bo%
theorem c120 (c:UInt8):((c.toNat:Int)=120)=(c=120):=c_int c 120 bo%
theorem c88 (c:UInt8):((c.toNat:Int)=88)=(c=88):=c_int c 88 bo%
theorem spec_l2Part_ok {n:Nat} (hn:4194304+3≤n) {s:Bs} (hs:s.length≤4000000):cs_l2Part n s=some ((lnumM s).getD (-1),()):=by
 obtain ⟨m,rfl⟩:=sn hn
 rw[es_l2Part];unfold ms_l2Part
 match s,hs with
 | [],_=>rfl
 | [c],_ =>
  have e:([c]==([]:Bs))=false:=rfl
  simp only[e,bif_f]
  rw[bif_dec,if_neg (by simp),bif_dec,if_neg (by simp),bind_some',spec_l2Digits_ok bo% (by simp) bo%]
  unfold lnumM
  rw[if_neg (by simp),if_neg (by simp[isHex]),if_neg (by simp)]
 | c :: d :: l,hs =>
  have e:((c :: d :: l)==([]:Bs))=false:=rfl
  have hl:(2:Int)≤((c :: d :: l).length:Int):=by simp;omega
  simp only[List.length_cons] at hs
  have t1:(((c :: d :: l).take (c :: d :: l).length).drop (1:Int).toNat)=d :: l:=by rw[take_all];rfl
  have t2:(((c :: d :: l).take (c :: d :: l).length).drop (2:Int).toNat)=l:=by rw[take_all];rfl
  have d1:=spec_l2Digits_ok (n:=m) bo% (s:=c :: d :: l) (by simp;omega) (b:=10) bo%
  have d2:=spec_l2Digits_ok (n:=m) bo% (s:=d :: l) (by simp;omega) (b:=8) bo%
  have d3:=spec_l2Digits_ok (n:=m) bo% (s:=l) bo% (b:=16) bo%
  simp only[e,bif_f,t1,t2,d1,d2,d3,Option.bind_some,bt_0,bt_1]
  simp (disch:=omega) only [bif_dec,grd_dec,if_pos,c48,c120,c88]
  unfold lnumM
  rw[if_neg (List.cons_ne_nil _ _)]
  by_cases h1:c=48
  ·subst h1
   rw[if_pos rfl]
   by_cases h2:d=120
   ·subst h2;rfl
   ·rw[if_neg h2]
    by_cases h3:d=88
    ·subst h3;rfl
    ·rw[if_neg h3,if_neg (by simp[isHex,h2,h3]),if_pos ⟨rfl,by simp⟩];rfl
  ·rw[if_neg h1,if_neg h1,if_neg (by simp[isHex,h1]),if_neg (by simp[h1])]
theorem prefix_eq (s p:Bs):(s.take p.length==p)=p.isPrefixOf s:=by
 rw[Bool.eq_iff_iff,beq_iff_eq,List.isPrefixOf_iff_prefix,List.prefix_iff_eq_take]
 exact eq_comm
theorem stringslite_HasPrefix_ok {n:Nat} (hn:4194304+1≤n) (s p:Bs):c_stringslite_HasPrefix n s p=some (p.isPrefixOf s,()):=by
 obtain ⟨m,rfl⟩:=sn hn
 rw[eq_stringslite_HasPrefix];unfold m_stringslite_HasPrefix
 simp (disch:=omega) only [bif_dec,grd_dec,if_pos,toNat_nat,List.drop_zero,prefix_eq]
 by_cases h:p.length≤s.length
 ·rw[if_pos bo%]
 ·rw[if_neg bo%]
  have:p.isPrefixOf s=false:=by
   rw[Bool.eq_false_iff];intro q
   have:=(List.isPrefixOf_iff_prefix.1 q).length_le
   omega
  rw[this]
theorem strings_HasPrefix_ok {n:Nat} (hn:4194304+2≤n) (s p:Bs):c_strings_HasPrefix n s p=some (p.isPrefixOf s,()):=by
 obtain ⟨m,rfl⟩:=sn hn
 rw[eq_strings_HasPrefix];unfold m_strings_HasPrefix
 rw[stringslite_HasPrefix_ok bo%,Option.bind_some]
noncomputable def numF (n:Nat) (x0:Bs) (b:Int) (f:(Int×Int×Unit)→Option (Int×Bool×Unit)) (s9:Int×Int×Unit):Option (Int×Bool×Unit) :=
 bif (decide (s9.2.1<(x0.length:Int))) then (grd (decide (0≤s9.2.1)) (grd (decide (s9.2.1<(x0.length:Int))) ((ci_hex n (bt x0 s9.2.1)).bind fun y11=>bif (decide (y11.1<(0:Int))) then (some ((0:Int),false,())) else (bif (decide (b≤y11.1)) then (some ((0:Int),false,())) else (bif (decide ((4294967295:Int)<s9.1)) then (some ((0:Int),false,())) else (f ((IntKind.i64.wrap ((IntKind.i64.wrap (b*s9.1))+y11.1)),(IntKind.i64.wrap (s9.2.1+(1:Int))),()))))))) else (some (s9.1,true,()))
def numR (o:Option Int):Int×Bool×Unit:=match o with | some r=>(r,true,()) | none=>(0,false,())
theorem numF_ok {m:Nat} (hn:4194304+1≤m) {s:Bs} (hs:s.length≤4000000) {b:Int} (hb:2≤b∧b≤16):loopR (numF m s b) m ((0:Int),(0:Int),())=some (numR (digM b 0 s)):=by
 refine loopS s (fun l i st r=>st.2.1=(i:Int)∧0≤st.1∧st.1≤68719476735∧r=numR (digM b st.1 l)) ?_ ?_ ⟨rfl,by simp,by simp,rfl⟩ bo%
 ·rintro ⟨v,i0,⟨⟩⟩ r self ⟨hi0,h0,h1,rfl⟩
  simp only at hi0;subst hi0
  unfold numF
  simp (disch:=omega) only [bif_dec,if_neg,digM,numR]
 ·rintro x l i ⟨v,i0,⟨⟩⟩ r self hd hi hx ⟨hi0,h0,h1,rfl⟩ ih
  simp only at hi0 h0 h1;subst hi0
  have hr:=hexM_range x
  unfold numF
  simp (disch:=omega) only [bif_dec,grd_dec,if_pos,bt_get hx,impl_hex_ok,Option.bind_some]
  split
  ·rename_i h;rw[digM_n (.inl h)];rfl
  ·split
   ·rename_i h;rw[digM_n (.inr (.inl h))];rfl
   ·split
    ·rename_i h;rw[digM_n (.inr (.inr h))];rfl
    ·rename_i g1 g2 g3
     have hd:=digM_s (b:=b) (v:=v) (x:=x) (l:=l) (by rintro (h | h | h) <;> omega)
     obtain ⟨e1,e2,e3,e4⟩:=dig_step v b (hexM x) hb h0 bo% ⟨by omega,by omega⟩
     exact ih (_,_,()) ⟨w_i bo%,by simp only[];omega,by simp only[];omega,by simp only[];rw[e2,hd]⟩
theorem impl_labelNumber_ok {n:Nat} (hn:4194304+3≤n) {s:Bs} (hs:s.length≤4000000):ci_labelNumber n s=some (numR (lnumM s)):=by
 obtain ⟨m,rfl⟩:=sn hn
 rw[ei_labelNumber];unfold mi_labelNumber
 cases s with
 | nil=>rfl
 | cons c l =>
  have e:((c :: l)==([]:Bs))=false:=rfl
  simp only[List.length_cons] at hs
  have l0:mi_labelNumber.l0 m (c :: l)=numF m ((c :: l).drop 2) 16:=by
   have:((c :: l).take (c :: l).length).drop (2:Int).toNat=(c :: l).drop 2:=take_all _ _
   funext f st;unfold mi_labelNumber.l0 numF;rw[this]
  have l1:mi_labelNumber.l1 m (c :: l)=numF m ((c :: l).drop 2) 16:=by
   have:((c :: l).take (c :: l).length).drop (2:Int).toNat=(c :: l).drop 2:=take_all _ _
   funext f st;unfold mi_labelNumber.l1 numF;rw[this]
  have l2:mi_labelNumber.l2 m (c :: l)=numF m l 8:=by
   have:((c :: l).take (c :: l).length).drop (1:Int).toNat=l:=take_all _ _
   funext f st;unfold mi_labelNumber.l2 numF;rw[this]
  have l3:mi_labelNumber.l3 m (c :: l)=numF m (c :: l) 10:=rfl
  have l4:mi_labelNumber.l4 m (c :: l)=numF m (c :: l) 10:=rfl
  rw[l0,l1,l2,l3,l4,numF_ok bo% (by simp;omega) bo%,numF_ok bo% bo% bo%,numF_ok bo% (by simp;omega) bo%]
  simp (disch:=omega) only [e,bif_f,strings_HasPrefix_ok,Option.bind_some,bif_dec,grd_dec,if_pos]
  rw[bif_ite,bif_ite,bt_0]
  unfold lnumM
  rw[if_neg (List.cons_ne_nil _ _),isHex_prefix]
  have hlen:∀p:Bs,p.length=2→p.isPrefixOf (c :: l)=true→(2:Int)≤((c :: l).length:Int):=fun p hp h=>by
   have:=(List.isPrefixOf_iff_prefix.1 h).length_le
   omega
  by_cases h1:([48,120]:Bs).isPrefixOf (c :: l)=true
  ·rw[if_pos h1,if_pos (hlen _ rfl h1),h1,Bool.true_or,if_pos rfl]
  ·rw[if_neg h1]
   by_cases h2:([48,88]:Bs).isPrefixOf (c :: l)=true
   ·rw[if_pos h2,if_pos (hlen _ rfl h2),h2,Bool.or_true,if_pos rfl]
   ·have h1':([48,120]:Bs).isPrefixOf (c :: l)=false:=Bool.eq_false_iff.2 h1
    have h2':([48,88]:Bs).isPrefixOf (c :: l)=false:=Bool.eq_false_iff.2 h2
    rw[if_neg h2,if_pos (show (0:Int)<((c :: l).length:Int) by simp),h1',h2',Bool.or_false,if_neg Bool.false_ne_true]
    simp only[c48]
    by_cases h3:c=48
    ·subst h3
     rw[if_pos rfl]
     by_cases h4:1<((48:UInt8) :: l).length
     ·rw[if_pos bo%,if_pos ⟨rfl,h4⟩];rfl
     ·rw[if_neg bo%,if_neg (fun q=>h4 q.2)]
    ·rw[if_neg h3,if_neg (fun q=>h3 (by simpa using q.1))]
end Go.VM.T
namespace Go.VM.T
open Go.VM
theorem last_of {s:Bs}:∃p,(labelsM s).getD ((labelsM s).length-1) []=p∧(labelsM s).getLast?.getD []=p:=by
 refine ⟨_,rfl,?_⟩
 have h:1≤(labelsM s).length:=by
  have:=labels_ne s
  cases h:labelsM s with
  | nil=>exact absurd h this
  | cons a l=>simp
 rw[parts_last h];rfl
theorem labels_pos (s:Bs):1≤(labelsM s).length:=by
 have:=labels_ne s
 cases h:labelsM s with
 | nil=>exact absurd h this
 | cons a l=>simp
theorem last_len {s p:Bs} (h:(labelsM s).getD ((labelsM s).length-1) []=p):p.length≤s.length:=by
 have h1:=labels_pos s
 have h2:(labelsM s)[(labelsM s).length-1]? = some p:=by
  have:(labelsM s).length-1<(labelsM s).length:=by omega
  rw[←h];simp[List.getD,this]
 exact cutM_sub 46 s p (labels_mem s p (List.mem_of_getElem? h2))
theorem spec_l2Ends_in {m:Nat} (hm:4194304+3≤m) (ps:List Bs) (hps:ps.length≤4000001) (h1:1≤ps.length) (p:Bs) (hp:ps.getD (ps.length-1) []=p) (hpl:p.length≤4000000) :
  loopR (ms_l2Ends.l0 m (ps,())) m (true,(0:Int),())=some ((p.all digB||(isHex p&&(lnumM p).isSome)),()):=by
 have hw:IntKind.i64.wrap ((ps.length:Int)-1)=((ps.length-1:Nat):Int):=by rw[w64 bo% bo%];omega
 refine loopS p (fun l i st r=>st.2.1=(i:Int)∧r=(((st.1&&l.all digB)||(isHex p&&(lnumM p).isSome)),())) ?_ ?_ ⟨rfl,by simp⟩ bo%
 ·rintro ⟨b,i0,⟨⟩⟩ r self ⟨hi0,rfl⟩
  simp only at hi0;subst hi0
  unfold ms_l2Ends.l0
  simp only[hw,toNat_nat,hp]
  rw[bif_dec,if_neg bo%]
  cases b with
  | true=>simp
  | false =>
   simp only[bif_f,List.all_nil,Bool.and_true,Bool.false_or]
   match p,hpl with
   | [],_=>rfl
   | [c],_=>simp[isHex]
   | c :: d :: l,hpl =>
    have hq:=spec_l2Part_ok (n:=m) bo% (s:=c :: d :: l) hpl
    have hlen:(2:Int)≤((c :: d :: l).length:Int):=by simp;omega
    simp only[bt_0,bt_1,hq,Option.bind_some]
    simp (disch:=omega) only [bif_dec,grd_dec,if_pos,c48,c120,c88]
    have hs:decide (0≤(lnumM (c :: d :: l)).getD (-1))=(lnumM (c :: d :: l)).isSome:=lnum_isSome _
    rw[hs]
    by_cases g1:c=48
    ·subst g1
     rw[if_pos rfl]
     by_cases g2:d=120
     ·subst g2;simp[isHex]
     ·rw[if_neg g2]
      by_cases g3:d=88
      ·subst g3;simp[isHex]
      ·rw[if_neg g3];simp[isHex,g2,g3]
    ·rw[if_neg g1];simp[isHex,g1]
 ·rintro x l i ⟨b,i0,⟨⟩⟩ r self hd hi hx ⟨hi0,rfl⟩ ih
  simp only at hi0;subst hi0
  unfold ms_l2Ends.l0
  simp only[hw,toNat_nat,hp]
  simp (disch:=omega) only [bif_dec,grd_dec,if_pos,bt_get hx]
  cases b with
  | false=>exact ih (_,_,()) ⟨w_i bo%,by simp⟩
  | true =>
   simp only[bif_t]
   by_cases h:(48:Int)≤(x.toNat:Int)
   ·rw[if_pos h]
    refine ih (_,_,()) ⟨w_i bo%,?_⟩
    have:digB x=decide ((x.toNat:Int)≤57):=by rw[digB_int];simp[h]
    simp[this]
   ·rw[if_neg h]
    refine ih (_,_,()) ⟨w_i bo%,?_⟩
    have:digB x=false:=by rw[digB_int];simp[h]
    simp[this]
theorem spec_l2Ends_ok {n:Nat} (hn:4194304+4≤n) {s:Bs} (hs:s.length≤3000000):cs_l2Ends n s=some (endsM s,()):=by
 obtain ⟨m,rfl⟩:=sn hn
 rw[es_l2Ends];unfold ms_l2Ends
 rw[spec_l2Parts_ok bo% bo%,Option.bind_some]
 have hl:=labels_len s
 have h1:=labels_pos s
 obtain ⟨p,hp,hq⟩:=last_of (s:=s)
 have hpl:=last_len hp
 unfold endsM
 have hw:IntKind.i64.wrap (((labelsM s).length:Int)-1)=(((labelsM s).length-1:Nat):Int):=by rw[w64 bo% bo%];omega
 simp only[hw,toNat_nat,hp,hq]
 rw[spec_l2Ends_in bo% _ bo% h1 p hp bo%,ends_eq]
 simp (disch:=omega) only [grd_dec,if_pos,beq_dec p,bif_dec]
 split <;> rfl
theorem impl_ends_in {m:Nat} (hm:4194304+3≤m) (ps:List Bs) (hps:ps.length≤4000001) (h1:1≤ps.length) (p:Bs) (hp:ps.getD (ps.length-1) []=p) (hpl:p.length≤4000000) :
  loopR (mi_endsInNumber.l0 m (ps,())) m ((0:Int),())=some (p.all digB,()):=by
 have hw:IntKind.i64.wrap ((ps.length:Int)-1)=((ps.length-1:Nat):Int):=by rw[w64 bo% bo%];omega
 refine loopS p (fun l i st r=>st.1=(i:Int)∧r=(l.all digB,())) ?_ ?_ ⟨rfl,rfl⟩ bo%
 ·rintro ⟨i0,⟨⟩⟩ r self ⟨hi0,rfl⟩
  simp only at hi0;subst hi0
  unfold mi_endsInNumber.l0
  simp only[hw,toNat_nat,hp]
  rw[bif_dec,if_neg bo%];rfl
 ·rintro x l i ⟨i0,⟨⟩⟩ r self hd hi hx ⟨hi0,rfl⟩ ih
  simp only at hi0;subst hi0
  unfold mi_endsInNumber.l0
  simp only[hw,toNat_nat,hp]
  simp (disch:=omega) only [bif_dec,grd_dec,if_pos,bt_get hx,impl_isDigit_ok,Option.bind_some]
  cases h:digB x with
  | true=>exact ih _ ⟨w_i bo%,by simp[h]⟩
  | false=>simp[h]
theorem impl_endsInNumber_ok {n:Nat} (hn:4194304+4≤n) {s:Bs} (hs:s.length≤3000000):ci_endsInNumber n s=some (endsM s,()):=by
 obtain ⟨m,rfl⟩:=sn hn
 rw[ei_endsInNumber];unfold mi_endsInNumber
 rw[impl_labels_ok bo% bo%,Option.bind_some]
 have hl:=labels_len s
 have h1:=labels_pos s
 obtain ⟨p,hp,hq⟩:=last_of (s:=s)
 have hpl:=last_len hp
 unfold endsM
 have hw:IntKind.i64.wrap (((labelsM s).length:Int)-1)=(((labelsM s).length-1:Nat):Int):=by rw[w64 bo% bo%];omega
 simp only[hw,toNat_nat,hp,hq]
 rw[impl_ends_in bo% _ bo% h1 p hp bo%]
 simp (disch:=omega) only [grd_dec,if_pos,beq_dec p,bif_dec,strings_HasPrefix_ok,impl_labelNumber_ok,Option.bind_some]
 rw[isHex_prefix,bif_ite,bif_ite]
 have e:(numR (lnumM p)).2.1=(lnumM p).isSome:=by cases lnumM p <;> rfl
 rw[e]
 split
 ·rfl
 ·by_cases g1:([48,120]:Bs).isPrefixOf p=true
  ·rw[if_pos g1,g1];simp
  ·rw[if_neg g1,Bool.eq_false_iff.2 g1,Bool.false_or]
   split <;> rfl
theorem decM_pct {a b:UInt8} {r:Bs}:decM (37 :: a :: b :: r)=if 0≤hexM a∧0≤hexM b then hexB a b :: decM r else 37 :: decM (a :: b :: r):=by
 rw[decM]
theorem decM_other {c:UInt8} {l:Bs} (h:¬(c=37∧2≤l.length)):decM (c :: l)=c :: decM l:=by
 rw[decM]
 rintro a b r rfl rfl
 exact h ⟨rfl,by simp⟩
theorem hexB_toNat (a b:UInt8) (ha:0≤hexM a) (hb:0≤hexM b):((hexB a b).toNat:Int)=16*hexM a+hexM b:=by
 have h1:=hexM_range a
 have h2:=hexM_range b
 unfold hexB
 simp;omega
theorem decM_len:∀(k:Nat) (l:Bs),l.length≤k→(decM l).length≤l.length
 | _,[],_=>by simp[decM]
 | 0,_ :: _,h=>by simp at h
 | k+1,c :: l,h=>by
  by_cases q:c=37∧2≤l.length
  ·obtain ⟨rfl,h2⟩:=q
   match l,h2 with
   | a :: b :: r,_ =>
    rw[decM_pct]
    simp only[List.length_cons] at h
    split
    ·have:=decM_len k r bo%;simp;omega
    ·have:=decM_len k (a :: b :: r) (by simp;omega);simp at this ⊢;omega
  ·rw[decM_other q]
   have:=decM_len k l (by simp at h;omega)
   simp;omega
theorem spec_Decode_ok {n:Nat} (hn:4194304+2≤n) {s:Bs} (hs:s.length≤4000000):cs_Decode n s=some (if s.length≤600 then decM s else [],()):=by
 obtain ⟨m,rfl⟩:=sn hn
 rw[es_Decode];unfold ms_Decode
 by_cases h600:s.length≤600
 ·rw[if_pos h600]
  refine loopR_ind (fun st=>s.length-st.2.1.toNat) (fun st r=>∃i:Nat,st.2.1=(i:Int)∧i≤s.length∧st.1.length≤i∧r=(strOf st.1++decM (s.drop i),())) ?_ m _ _ ⟨0,rfl,by omega,by simp,by simp[strOf]⟩ (by simp;omega)
  rintro ⟨out,i0,⟨⟩⟩ r self ⟨i,hi0,hi,hl,rfl⟩ ih
  simp only at hi0 hl;subst hi0
  unfold ms_Decode.l0
  have hap1:out.length+1≤appBound:=ap_le bo%
  cases hd:s.drop i with
  | nil =>
   have:=at_nil hi hd
   simp (disch:=omega) only [bif_dec,if_neg,decM,List.append_nil]
  | cons x l =>
   obtain ⟨h1,h2,h3⟩:=at_cons hd
   rw[hd] at ih
   have hxl:l.length+i+1=s.length:=by have:=congrArg List.length hd;simp at this;omega
   have one:¬(x=37∧2≤l.length∧0≤hexM (s.getD (i+1) 0)∧0≤hexM (s.getD (i+2) 0))→self (out++[(x.toNat:Int)],IntKind.i64.wrap ((i:Int)+1),())=some (strOf out++decM (x :: l),()):=fun hno=>by
    rw[w_i (show i≤4000000 by omega)]
    refine ih (out++[(x.toNat:Int)],((i+1:Nat):Int),()) (by simp only[toNat_nat];omega) ⟨i+1,rfl,by omega,by simp;omega,?_⟩
    have:decM (x :: l)=x :: decM l:=by
     by_cases q:x=37∧2≤l.length
     ·obtain ⟨rfl,q2⟩:=q
      match l,q2,h3,hno with
      | a :: b :: r,q2,h3,hno =>
       obtain ⟨_,a2,a3⟩:=at_cons h3
       obtain ⟨_,b2,_⟩:=at_cons a3
       rw[decM_pct,if_neg (fun z=>hno ⟨rfl,q2,by rw[getD_get _ a2];exact z.1,by rw[getD_get _ b2];exact z.2⟩)]
     ·exact decM_other q
    rw[this,h3]
    simp[strOf_app,strOf_one _ _ rfl]
   have e37:((x.toNat:Int)=37)=(x=37):=c_int x 37 bo%
   by_cases q:2≤l.length
   ·match l,q,h3,hxl,ih,one with
    | a :: b :: r,_,h3,hxl,ih,one =>
     obtain ⟨a1,a2,a3⟩:=at_cons h3
     obtain ⟨b1,b2,b3⟩:=at_cons a3
     have w1:IntKind.i64.wrap ((i:Int)+1)=((i+1:Nat):Int):=w_i bo%
     have w2:IntKind.i64.wrap ((i:Int)+2)=((i+2:Nat):Int):=by rw[w64 bo% bo%];omega
     have w3:IntKind.i64.wrap (((i+2:Nat):Int)+1)=((i+3:Nat):Int):=w_i bo%
     have ba:bt s ((i+1:Nat):Int)=(a.toNat:Int):=bt_get a2
     have bb:bt s ((i+2:Nat):Int)=(b.toNat:Int):=bt_get b2
     have bx:bt s (i:Int)=(x.toNat:Int):=bt_get h2
     have hA:=hexM_range a
     have hB:=hexM_range b
     rw[getD_get _ a2,getD_get _ b2] at one
     simp only[w1,w2,w3,ba,bb,bx] at one ⊢
     simp (disch:=omega) only [bif_dec,grd_dec,if_pos,spec_l1Hex_ok,Option.bind_some,List.length_cons,List.length_nil,Nat.zero_add,hap1,if_true,e37]
     by_cases g1:x=37
     ·rw[if_pos g1]
      by_cases g2:0≤hexM a
      ·rw[if_pos g2]
       by_cases g3:0≤hexM b
       ·rw[if_pos g3]
        have hv:IntKind.u8.wrap (IntKind.i64.wrap (IntKind.i64.wrap (16*hexM a)+hexM b))=((hexB a b).toNat:Int):=by
         rw[hexB_toNat a b g2 g3,w64 (x:=16*hexM a) bo% bo%,w64 bo% bo%,w8 bo% bo%]
        rw[hv]
        refine ih (out++[((hexB a b).toNat:Int)],((i+3:Nat):Int),()) (by simp only[toNat_nat];omega) ⟨i+3,rfl,by omega,by simp;omega,?_⟩
        subst g1
        rw[decM_pct,if_pos ⟨g2,g3⟩,b3]
        simp[strOf_app,strOf_one _ _ rfl]
       ·rw[if_neg g3];exact one (fun z=>g3 z.2.2.2)
      ·rw[if_neg g2];exact one (fun z=>g2 z.2.2.1)
     ·rw[if_neg g1];exact one (fun z=>g1 z.1)
   ·have w2:IntKind.i64.wrap ((i:Int)+2)=((i+2:Nat):Int):=by rw[w64 bo% bo%];omega
    have bx:bt s (i:Int)=(x.toNat:Int):=bt_get h2
    simp only[w2,bx]
    simp (disch:=omega) only [bif_dec,grd_dec,if_pos,if_neg,List.length_cons,List.length_nil,Nat.zero_add,hap1,if_true]
    split <;> exact one (fun z=>q z.2.1)
 ·rw[if_neg h600]
  refine loopR_ind (fun st=>s.length-st.2.1.toNat) (fun st r=>st=(([]:List Int),(0:Int),())∧r=(([]:Bs),())) ?_ m _ _ ⟨rfl,rfl⟩ (by simp;omega)
  rintro _ r self ⟨rfl,rfl⟩ ih
  unfold ms_Decode.l0
  simp (disch:=omega) only [bif_dec,if_neg,if_pos]
  rfl
theorem impl_Decode_ok {n:Nat} (hn:4194304+1≤n) {s:Bs}:ci_Decode n s=some (if s.length≤600 then decM s else [],()):=by
 obtain ⟨m,rfl⟩:=sn hn
 rw[ei_Decode];unfold x_impl_Decode
 simp only[]
 split <;> rfl
end Go.VM.T
namespace Go.VM.T
open Go.VM
theorem numR_some (r:Int):numR (some r)=(r,true,()):=by simp[numR]
theorem mem_small {s:Bs} (hs:s.length≤3000000):∀p∈labelsM s,p.length≤3000000:=fun p hp=>by
 have:=cutM_sub 46 s p (labels_mem s p hp)
 omega
theorem four_last {i:Nat} (hi:i≤3) {v n:Int} (h0:0≤v) (h1:v<up i) (hn:0≤n) (hc:n<pw i):0≤v*pw i∧v*pw i≤4294967295∧v*pw i+n≤4294967295:=by
 obtain rfl | rfl | rfl | rfl:i=0∨i=1∨i=2∨i=3:=by omega
 all_goals (simp[pw,up] at *;omega)
theorem four_next {i:Nat} (hi:i≤2) {v n:Int} (h0:0≤v) (h1:v<up i) (hn:0≤n) (hc:n≤255):0≤v*256+n∧v*256+n<up (i+1)∧v≤4294967295∧v*256+n≤4294967295:=by
 obtain rfl | rfl | rfl:i=0∨i=1∨i=2:=by omega
 all_goals (simp[up] at *;omega)
theorem four_in {m:Nat} (hm:4194304+2≤m) (i:Nat) (hi:i≤3) (v t:Int) (h0:0≤v) (h1:v<up i) (ht:-1≤t) (ht2:t≤68719476735) (f:(Int×Int×Unit)→Option (Int×Bool×Unit)) (r:Int×Bool×Unit)
  (hr:(if 0≤t∧t<pw i then f (v*pw i+t,((i+1:Nat):Int),()) else some (0,false,()))=some r) :
  loopR (ms_FourGet.l0 m (t,()) f (v,(i:Int),())) m ((255:Int),(i:Int),())=some r:=by
 have fin:∀(k:Nat) (self:(Int×Int×Unit)→Option (Int×Bool×Unit)),ms_FourGet.l0 m (t,()) f (v,(i:Int),()) self (pw i-1,(3:Int),())=some r:=fun k self=>by
  have hpw:=pw_range i
  unfold ms_FourGet.l0
  simp (disch:=omega) only [bif_dec,if_neg,spec_l1In_ok,Option.bind_some,bif_ndec]
  by_cases hc:0≤t∧t<pw i
  ·rw[if_pos (show (0:Int)≤t∧t≤pw i-1 from ⟨hc.1,by omega⟩)]
   rw[if_pos hc] at hr
   obtain ⟨b1,b2,b3⟩:=four_last hi h0 h1 hc.1 hc.2
   rw[w64 (x:=pw i-1+1) bo% bo%,show pw i-1+1=pw i by omega,w64 (x:=v*pw i) bo% bo%,w64 (x:=v*pw i+t) bo% bo%,w_i bo%]
   exact hr
  ·rw[if_neg (show ¬((0:Int)≤t∧t≤pw i-1) from fun q=>hc ⟨q.1,by omega⟩)]
   rw[if_neg hc] at hr
   exact hr
 have st:∀(x:Int) (j:Nat) (self:(Int×Int×Unit)→Option (Int×Bool×Unit)),j<3→0≤x→x≤16777215→ms_FourGet.l0 m (t,()) f (v,(i:Int),()) self (x,(j:Int),())=self (x*256+255,((j+1:Nat):Int),()):=fun x j self hj hx0 hx1=>by
  unfold ms_FourGet.l0
  simp (disch:=omega) only [bif_dec,if_pos]
  rw[w64 (x:=x*256) bo% bo%,w64 bo% bo%,w_i bo%]
 obtain ⟨k,rfl⟩:∃k,m=k+4:=⟨m-4,by omega⟩
 obtain rfl | rfl | rfl | rfl:i=0∨i=1∨i=2∨i=3:=by omega
 ·rw[loopR,st 255 0 _ bo% bo% bo%,loopR,st _ 1 _ bo% bo% bo%,loopR,st _ 2 _ bo% bo% bo%,loopR]
  exact fin k _
 ·rw[loopR,st 255 1 _ bo% bo% bo%,loopR,st _ 2 _ bo% bo% bo%,loopR]
  exact fin k _
 ·rw[loopR,st 255 2 _ bo% bo% bo%,loopR]
  exact fin k _
 ·rw[loopR]
  exact fin k _
theorem lnum_t (p:Bs):-1≤(lnumM p).getD (-1)∧(lnumM p).getD (-1)≤68719476735:=by
 cases hn:lnumM p with
 | none=>simp
 | some n=>have:=lnumM_range p n hn;simp;omega
theorem spec_FourGet_ok {n:Nat} (hn:4194304+4≤n) {s:Bs} (hs:s.length≤3000000):cs_FourGet n s=some (numR (fourGetM s)):=by
 obtain ⟨m,rfl⟩:=sn hn
 rw[es_FourGet];unfold ms_FourGet
 rw[spec_l2Parts_ok bo% bo%]
 simp only[Option.bind_some]
 have hms:=mem_small hs
 have hne:=labels_pos s
 unfold fourGetM
 generalize labelsM s=ps at *
 by_cases h4:4<ps.length
 ·rw[bif_dec,if_pos bo%,if_pos (.inr h4)];rfl
 rw[bif_dec,if_neg bo%]
 by_cases h2:200<s.length
 ·rw[bif_dec,if_pos bo%,if_pos (.inl h2)];rfl
 rw[bif_dec,if_neg bo%,if_neg bo%]
 refine loopS ps (fun l i st r=>st.2.1=(i:Int)∧0≤st.1∧(l≠[]→st.1<up i)∧r=numR (fourGo i st.1 l)) ?_ ?_ ⟨rfl,by simp,fun _=>by simp[up],rfl⟩ bo%
 ·rintro ⟨v,i0,⟨⟩⟩ r self ⟨hi0,h0,h1,rfl⟩
  simp only at hi0;subst hi0
  unfold ms_FourGet.l1
  simp (disch:=omega) only [bif_dec,if_neg,fourGo,numR]
 ·rintro p l i ⟨v,i0,⟨⟩⟩ r self hd hi hx ⟨hi0,h0,h1,rfl⟩ ih
  simp only at hi0 h0 h1;subst hi0
  replace h1:=h1 (by simp)
  have hpl:=hms p (List.mem_of_getElem? hx)
  have hlen:ps.length=i+l.length+1:=by have:=congrArg List.length hd;simp at this;omega
  have hw:IntKind.i64.wrap ((ps.length:Int)-1)=((ps.length-1:Nat):Int):=by rw[w64 bo% bo%];omega
  have ht:=lnum_t p
  unfold ms_FourGet.l1
  simp (disch:=omega) only [bif_dec,grd_dec,if_pos,toNat_nat,getD_get _ hx,spec_l2Part_ok,Option.bind_some,hw]
  cases l with
  | nil =>
   simp only[List.length_nil] at hlen
   rw[if_pos bo%]
   refine four_in bo% i bo% v _ h0 h1 ht.1 ht.2 self _ ?_
   cases hnl:lnumM p with
   | none=>simp[fourGo,hnl,numR]
   | some q =>
    have hq:=lnumM_range p q hnl
    simp only[Option.getD_some]
    by_cases hc:q<pw i
    ·rw[if_pos ⟨hq.1,hc⟩]
     refine ih _ ⟨rfl,?_,fun h=>absurd rfl h,?_⟩
     ·have:=four_last bo% h0 h1 hq.1 hc
      simp only[];omega
     ·simp[fourGo,hnl,hc]
    ·rw[if_neg (fun z=>hc z.2)]
     simp[fourGo,hnl,hc,numR]
  | cons q r =>
   simp only[List.length_cons] at hlen
   rw[if_neg bo%]
   simp (disch:=omega) only [spec_l1In_ok,Option.bind_some,bif_ndec]
   cases hnl:lnumM p with
   | none=>simp[fourGo,hnl,numR]
   | some k =>
    have hq:=lnumM_range p k hnl
    simp only[Option.getD_some]
    by_cases hc:k≤255
    ·rw[if_pos ⟨hq.1,hc⟩]
     obtain ⟨b1,b2,b3,b4⟩:=four_next bo% h0 h1 hq.1 hc
     rw[w64 (x:=v*256) bo% bo%,w64 (x:=v*256+k) bo% bo%]
     refine ih _ ⟨w_i bo%,b1,fun _=>b2,?_⟩
     simp[fourGo,hnl,hc]
    ·rw[if_neg (fun z=>hc z.2)]
     simp[fourGo,hnl,hc,numR]
theorem shl_c (x:Int) (c:Nat) (p:Int) (hp:(2:Int) ^ c=p) (hc:c≤64) (h0:0≤x*p) (h1:x*p≤9223372036854775807):IntKind.i64.wrap (x*2 ^ (min ((c:Int)).toNat IntKind.i64.bits))=x*p:=by
 have:min ((c:Int)).toNat IntKind.i64.bits=c:=by rw[Int.toNat_natCast];exact Nat.min_eq_left hc
 rw[this,hp,IntKind.wrap_i64]
 omega
theorem four_impl {i:Nat} (hi:i≤2) {v n:Int} (h0:0≤v) (h1:v<up i) (hn:0≤n) (hc:n≤255) :
  v*pw i+n*pw (i+1)=(v*256+n)*pw (i+1)∧(v*256+n)*pw (i+1)≤4294967295∧n*pw (i+1)≤4294967295∧0≤n*pw (i+1)∧0≤(v*256+n)*pw (i+1):=by
 obtain rfl | rfl | rfl:i=0∨i=1∨i=2:=by omega
 all_goals (simp[up,pw] at *;omega)
theorem impl_FourGet_ok {n:Nat} (hn:4194304+4≤n) {s:Bs} (hs:s.length≤3000000):ci_FourGet n s=some (numR (fourGetM s)):=by
 obtain ⟨m,rfl⟩:=sn hn
 rw[ei_FourGet];unfold mi_FourGet
 rw[impl_labels_ok bo% bo%]
 simp only[Option.bind_some]
 have hms:=mem_small hs
 have hne:=labels_pos s
 unfold fourGetM
 generalize labelsM s=ps at *
 by_cases h2:200<s.length
 ·rw[bif_dec,if_pos bo%,if_pos (.inl h2)];rfl
 rw[bif_dec,if_neg bo%]
 by_cases h4:4<ps.length
 ·rw[bif_dec,if_pos bo%,if_pos (.inr h4)];rfl
 rw[bif_dec,if_neg bo%,if_neg bo%]
 refine loopS ps (fun l i st r=>st.2.1=(i:Int)∧((l=[]∧r=(st.1,true,()))∨(l≠[]∧∃v,st.1=v*pw i∧0≤v∧v<up i∧r=numR (fourGo i v l)))) ?_ ?_ ⟨rfl,.inr ⟨fun h=>by rw[h] at hne;simp at hne,0,by simp,by simp,by simp[up],rfl⟩⟩ bo%
 ·rintro ⟨v,i0,⟨⟩⟩ r self ⟨hi0,h⟩
  simp only at hi0;subst hi0
  rcases h with ⟨_,rfl⟩ | ⟨h,_⟩
  ·unfold mi_FourGet.l0
   simp (disch:=omega) only [bif_dec,if_neg]
  ·exact absurd rfl h
 ·rintro p l i ⟨v',i0,⟨⟩⟩ r self hd hi hx ⟨hi0,h⟩ ih
  simp only at hi0;subst hi0
  rcases h with ⟨h,_⟩ | ⟨_,v,hv,h0,h1,rfl⟩
  ·cases h
  simp only at hv;subst hv
  have hpl:=hms p (List.mem_of_getElem? hx)
  have hlen:ps.length=i+l.length+1:=by have:=congrArg List.length hd;simp at this;omega
  have hw:IntKind.i64.wrap ((ps.length:Int)-1)=((ps.length-1:Nat):Int):=by rw[w64 bo% bo%];omega
  have hi4:i≤3:=by omega
  have hpw:=pw_range i
  unfold mi_FourGet.l0
  simp (disch:=omega) only [bif_dec,grd_dec,if_pos,toNat_nat,getD_get _ hx,impl_labelNumber_ok,Option.bind_some,hw]
  cases l with
  | nil =>
   simp only[List.length_nil] at hlen
   have h5:IntKind.i64.wrap (5-(ps.length:Int))=((4-i:Nat):Int):=by rw[w64 bo% bo%];omega
   have h8:IntKind.i64.wrap (8*((4-i:Nat):Int))=((8*(4-i):Nat):Int):=by rw[w64 bo% bo%];omega
   have hlim:IntKind.i64.wrap (IntKind.i64.wrap (1*2 ^ (min ((8*(4-i):Nat):Int).toNat IntKind.i64.bits))-1)=pw i-1:=by
    rw[shl_c 1 (8*(4-i)) (pw i) (by
     obtain rfl | rfl | rfl | rfl:i=0∨i=1∨i=2∨i=3:=by omega
     all_goals rfl) bo% bo% bo%,w64 bo% bo%]
    omega
   have hh:0≤IntKind.i64.wrap (8*IntKind.i64.wrap (5-(ps.length:Int))):=by rw[h5,h8];omega
   rw[if_pos bo%,if_pos hh]
   rw[←h8,←h5] at hlim
   generalize IntKind.i64.wrap (IntKind.i64.wrap (1*2 ^ min (IntKind.i64.wrap (8*IntKind.i64.wrap (5-(ps.length:Int)))).toNat IntKind.i64.bits)-1)=L at hlim ⊢
   cases hnl:lnumM p with
   | none=>simp[fourGo,hnl,numR]
   | some q =>
    have hq:=lnumM_range p q hnl
    simp only[numR_some,Bool.not_true,bif_f]
    split
    ·rename_i hc
     have hc:¬q<pw i:=by omega
     simp[fourGo,hnl,hc,numR]
    ·rename_i hc
     have hc:q<pw i:=by omega
     have b:=four_last bo% h0 h1 hq.1 hc
     rw[if_neg bo%,w64 (x:=v*pw i+q) bo% bo%]
     refine ih _ ⟨w_i bo%,.inl ⟨rfl,?_⟩⟩
     simp[fourGo,hnl,hc,numR]
  | cons q r =>
   simp only[List.length_cons] at hlen
   rw[if_neg bo%]
   cases hnl:lnumM p with
   | none=>simp[fourGo,hnl,numR]
   | some k =>
    have hq:=lnumM_range p k hnl
    simp only[numR_some,Bool.not_true,bif_f]
    by_cases hc:k≤255
    ·obtain ⟨c1,c2,c3,c4,c5⟩:=four_impl bo% h0 h1 hq.1 hc
     obtain ⟨b1,b2,b3,b4⟩:=four_next bo% h0 h1 hq.1 hc
     have h3:IntKind.i64.wrap (3-(i:Int))=((3-i:Nat):Int):=by rw[w64 bo% bo%];omega
     have h8:IntKind.i64.wrap (8*((3-i:Nat):Int))=((8*(3-i):Nat):Int):=by rw[w64 bo% bo%];omega
     have hsh:IntKind.i64.wrap (k*2 ^ (min ((8*(3-i):Nat):Int).toNat IntKind.i64.bits))=k*pw (i+1):=shl_c k (8*(3-i)) (pw (i+1)) (by
      obtain rfl | rfl | rfl:i=0∨i=1∨i=2:=by omega
      all_goals rfl) bo% c4 bo%
     rw[if_neg bo%,if_pos (by rw[h3,h8];omega),h3,h8,hsh,c1,w64 (x:=(v*256+k)*pw (i+1)) bo% bo%]
     refine ih _ ⟨w_i bo%,.inr ⟨by simp,v*256+k,rfl,b1,b2,?_⟩⟩
     simp[fourGo,hnl,hc,numR]
    ·rw[if_pos bo%]
     simp[fourGo,hnl,hc,numR]
end Go.VM.T
namespace Go.VM.T
open Go Go.VM
def hostR (o:Option THost):THost×Bool×Unit:=match o with | some h=>(h,true,()) | none=>(hostZ,false,())
theorem hostR_some (h:THost):hostR (some h)=(h,true,()):=by simp[hostR]
theorem hostR_none:hostR none=(hostZ,false,()):=by simp[hostR]
theorem dec_small (s:Bs):(if s.length≤600 then decM s else []).length≤600:=by
 split
 ·have:=decM_len _ s (Nat.le_refl _);omega
 ·simp
theorem spec_HostGet_ok {n:Nat} (hn:4194304+5≤n) {s:Bs} (hs:s.length≤3000000):cs_HostGet n s=some (hostR (hostGetM s)):=by
 obtain ⟨m,rfl⟩:=sn hn
 rw[es_HostGet];unfold ms_HostGet
 have hd:=dec_small s
 rw[spec_Decode_ok bo% bo%]
 simp only[Option.bind_some]
 rw[spec_Lower_ok bo% bo%]
 simp only[Option.bind_some]
 unfold hostGetM
 generalize (if s.length≤600 then decM s else [])=d at *
 have hl:=lowM_len d
 simp only[]
 generalize lowM d=t at *
 rw[spec_l2Ends_ok bo% bo%,spec_FourGet_ok bo% bo%,spec_l2Name_ok bo% bo%]
 simp only[Option.bind_some]
 simp only[bif_dec,beq_dec t []]
 by_cases h1:200<s.length
 ·rw[if_pos bo%,if_pos (.inl h1),hostR_none];rfl
 rw[if_neg bo%]
 by_cases h2:t=[]
 ·rw[if_pos h2,if_pos (.inr h2),hostR_none];rfl
 rw[if_neg h2,if_neg (fun h=>h.elim h1 h2),bif_ite]
 split
 ·cases fourGetM t with
  | none=>simp[numR,hostR,hostZ]
  | some v=>simp[numR,hostR]
 ·cases isNameM t with
  | true=>simp[hostR]
  | false=>simp[hostR,hostZ]
theorem isNameM_nil:isNameM []=false:=by simp[isNameM]
theorem impl_HostGet_ok {n:Nat} (hn:4194304+5≤n) {s:Bs} (hs:s.length≤3000000):ci_HostGet n s=some (hostR (hostGetM s)):=by
 obtain ⟨m,rfl⟩:=sn hn
 rw[ei_HostGet];unfold mi_HostGet
 have hd:=dec_small s
 rw[impl_Decode_ok bo%]
 simp only[Option.bind_some]
 rw[impl_Lower_ok bo% bo%]
 simp only[Option.bind_some]
 unfold hostGetM
 generalize (if s.length≤600 then decM s else [])=d at *
 have hl:=lowM_len d
 simp only[]
 generalize lowM d=t at *
 rw[impl_endsInNumber_ok bo% bo%,impl_FourGet_ok bo% bo%,impl_isHostName_ok bo% bo%]
 simp only[Option.bind_some]
 simp only[bif_dec,beq_dec t [],bif_ndec]
 by_cases h1:200<s.length
 ·rw[if_pos bo%,if_pos (.inl h1),hostR_none];rfl
 rw[if_neg bo%]
 by_cases h2:t=[]
 ·rw[if_pos h2,if_pos (.inr h2),hostR_none,h2,isNameM_nil];rfl
 rw[if_neg h2,if_neg (fun h=>h.elim h1 h2),bif_ite]
 split
 ·cases fourGetM t with
  | none=>simp[numR,hostR,hostZ]
  | some v=>simp[numR,hostR]
 ·cases isNameM t with
  | true=>simp[hostR]
  | false=>simp[hostR,hostZ]
theorem spec_HostOk_ok {n:Nat} (hn:4194304+5≤n) {h:THost} (hs:h.2.1.length≤3000000):cs_HostOk n h=some (okH h,()):=by
 obtain ⟨m,rfl⟩:=sn hn
 obtain ⟨k,s,a,⟨⟩⟩:=h
 simp only at hs
 rw[es_HostOk];unfold ms_HostOk okH hostOkM
 simp only[]
 rw[spec_l2Name_ok bo% hs,spec_l2Ends_ok bo% hs,spec_l1In_ok bo%]
 simp only[Option.bind_some,bif_dec,beq_dec s []]
 by_cases h0:k=0
 ·rw[if_pos h0,if_pos h0]
  by_cases h1:s=[] <;> simp[h1,beq_dec]
 ·rw[if_neg h0,if_neg h0]
  by_cases h1:k=1
  ·rw[if_pos h1,if_pos h1]
   cases isNameM s <;> cases endsM s <;> simp[beq_dec]
  ·rw[if_neg h1,if_neg h1]
   by_cases h2:k=2
   ·rw[if_pos h2,if_pos h2]
    by_cases h3:s=[] <;> simp[h3]
   ·rw[if_neg h2,if_neg h2]
theorem impl_HostOk_ok {n:Nat} (hn:4194304+5≤n) {h:THost} (hs:h.2.1.length≤3000000):ci_HostOk n h=some (okH h,()):=by
 obtain ⟨m,rfl⟩:=sn hn
 obtain ⟨k,s,a,⟨⟩⟩:=h
 simp only at hs
 rw[ei_HostOk];unfold mi_HostOk okH hostOkM
 simp only[]
 rw[impl_isHostName_ok bo% hs,impl_endsInNumber_ok bo% hs,impl_in_ok bo%]
 simp only[Option.bind_some,bif_dec,beq_dec s []]
 by_cases h0:k=0
 ·rw[if_pos h0,if_pos h0]
  by_cases h1:s=[] <;> simp[h1,h0,beq_dec]
 ·rw[if_neg h0,if_neg h0]
  by_cases h1:k=1
  ·rw[if_pos h1,if_pos h1]
   by_cases h4:a=0 <;> cases isNameM s <;> cases endsM s <;> simp[h4]
  ·rw[if_neg h1,if_neg h1]
   by_cases h2:k=2
   ·rw[if_pos h2,if_pos h2]
    by_cases h3:s=[] <;> simp[h3]
   ·rw[if_neg h2,if_neg h2]
theorem one_byte (v:Int) (u:Nat) (hv:v=(u:Int)) (h:u<10):strOf [IntKind.u8.wrap (IntKind.i64.wrap (48+v))]=[UInt8.ofNat (48+u)]:=by
 subst hv
 rw[w64 bo% bo%,w8 bo% bo%]
 have e:(48+(u:Int)).toNat=48+u:=by omega
 simp[strOf,e]
theorem tdiv_nat (u d:Nat) (hu:u≤9223372036854775807):IntKind.i64.wrap (Int.tdiv (u:Int) (d:Int))=((u / d:Nat):Int):=by
 have e:Int.tdiv (u:Int) (d:Int)=((u / d:Nat):Int):=by rw[Int.tdiv_eq_ediv_of_nonneg bo%];rfl
 rw[e]
 have:u / d≤u:=Nat.div_le_self _ _
 generalize u / d=q at *
 exact w64 bo% bo%
theorem tmod_nat (u d:Nat):Int.tmod (u:Int) (d:Int)=((u % d:Nat):Int):=by rw[Int.tmod_eq_emod_of_nonneg bo%];rfl
theorem spec_l1Dec_go:∀(k:Nat) (u n:Nat),u≤9223372036854775807→u<10 ^ k→4194304+k≤n→1≤k→cs_l1Dec n (u:Int)=some (Lib.decDigits u,())
 | 0,u,n,_,_,_,hk=>by omega
 | k+1,u,n,hu,hl,hn,_=>by
  obtain ⟨m,rfl⟩:=sn hn
  rw[es_l1Dec];unfold ms_l1Dec
  rw[bif_dec,if_neg bo%,bif_dec,if_neg bo%,bif_dec]
  by_cases h:u<10
  ·rw[if_pos bo%,one_byte _ u rfl h,Lib.decDigits_one h]
  ·have hk:1≤k:=by
    rcases Nat.eq_zero_or_pos k with rfl | h'
    ·simp at hl;omega
    ·exact h'
   have ih:=spec_l1Dec_go k (u / 10) m bo% (by rw[Nat.pow_succ] at hl;omega) bo% hk
   have e1:=tdiv_nat u 10 hu
   have e2:=tmod_nat u 10
   have e1':IntKind.i64.wrap (Int.tdiv (u:Int) 10)=((u / 10:Nat):Int):=e1
   have e2':Int.tmod (u:Int) 10=((u % 10:Nat):Int):=e2
   rw[if_neg bo%,e1',e2',ih]
   simp only[Option.bind_some,one_byte _ (u % 10) rfl bo%]
   have:=dec_len (u / 10) bo%
   rw[grd_ndec,if_neg bo%,grd_ndec,if_neg bo%,grd_dec,if_pos (by simp;omega)]
   rw[←show Lib.decDigits u=Lib.decDigits (u / 10)++[UInt8.ofNat (48+u % 10)] by rw[Lib.decDigits,dif_neg h]]
theorem spec_l1Dec_ok {n:Nat} (hn:4194304+20≤n) (u:Nat) (hu:u≤9223372036854775807):cs_l1Dec n (u:Int)=some (Lib.decDigits u,()) :=
 spec_l1Dec_go 20 u n hu bo% hn bo%
theorem strconv_Itoa_ok {n:Nat} (hn:4194304+1≤n) (u:Nat) (hu:u≤9223372036854775807):c_strconv_Itoa n (u:Int)=some (Lib.decDigits u,()):=by
 obtain ⟨m,rfl⟩:=sn hn
 rw[eq_strconv_Itoa];unfold x_strconv_Itoa
 simp only[]
 rw[if_pos bo%,Lib.itoa_nonneg]
theorem spec_l2Four_ok {n:Nat} (hn:4194304+21≤n) (u:Nat) (hu:u<4294967296):cs_l2Four n (u:Int)=some (fourT u,()):=by
 obtain ⟨m,rfl⟩:=sn hn
 rw[es_l2Four];unfold ms_l2Four
 have e1:IntKind.i64.wrap (Int.tdiv (u:Int) 16777216)=((u / 16777216:Nat):Int):=tdiv_nat u 16777216 bo%
 have e2:IntKind.i64.wrap (Int.tdiv (u:Int) 65536)=((u / 65536:Nat):Int):=tdiv_nat u 65536 bo%
 have e3:IntKind.i64.wrap (Int.tdiv (u:Int) 256)=((u / 256:Nat):Int):=tdiv_nat u 256 bo%
 have f:∀v:Nat,Int.tmod (v:Int) 256=((v % 256:Nat):Int):=fun v=>tmod_nat v 256
 simp only[e1,e2,e3,f]
 rw[spec_l1Dec_ok bo% _ bo%,spec_l1Dec_ok bo% _ bo%,spec_l1Dec_ok bo% _ bo%,spec_l1Dec_ok bo% _ bo%]
 simp only[Option.bind_some]
 have l1:=dec_len (u / 16777216) bo%
 have l2:=dec_len (u / 65536 % 256) bo%
 have l3:=dec_len (u / 256 % 256) bo%
 have l4:=dec_len (u % 256) bo%
 simp (disch:=(simp only[List.length_append,List.length_cons,List.length_nil];omega)) only [grd_ndec,grd_dec,if_pos,if_neg]
 simp[fourT]
theorem putH_two {h:THost} (ho:okH h=true) (h2:h.1=2):putH h=fourT h.2.2.1.toNat∧0≤h.2.2.1∧h.2.2.1≤4294967295:=by
 obtain ⟨k,s,a,⟨⟩⟩:=h
 simp only at h2;subst h2
 unfold putH hostPutM
 unfold okH at ho
 simp only at ho ⊢
 rw[if_pos ho]
 simp only[if_true]
 exact ⟨trivial,(hostOk_two ho).2⟩
theorem spec_HostPut_ok {n:Nat} (hn:4194304+22≤n) {h:THost} (hs:h.2.1.length≤3000000):cs_HostPut n h=some (putH h,()):=by
 obtain ⟨m,rfl⟩:=sn hn
 rw[es_HostPut];unfold ms_HostPut
 rw[spec_HostOk_ok bo% hs]
 simp only[Option.bind_some]
 cases ho:okH h with
 | false =>
  unfold putH hostPutM
  unfold okH at ho
  rw[if_neg (by rw[ho];simp)];rfl
 | true =>
  simp only[Bool.not_true,bif_f]
  rw[bif_dec]
  by_cases h2:h.1=2
  ·rw[if_pos h2]
   obtain ⟨e1,e2,e3⟩:=putH_two ho h2
   have e:h.2.2.1=((h.2.2.1.toNat:Nat):Int):=by omega
   rw[e1]
   have:=spec_l2Four_ok (n:=m) bo% h.2.2.1.toNat bo%
   rw[←e] at this
   rw[this];rfl
  ·rw[if_neg h2]
   unfold putH hostPutM
   unfold okH at ho
   rw[if_pos ho,if_neg h2]
end Go.VM.T
namespace Go.VM.T
open Go Go.VM
theorem shr24 (u:Nat):((u:Int)).fdiv (2 ^ (min (24:Int).toNat IntKind.i64.bits))=((u / 16777216:Nat):Int):=by
 show ((u:Int)).fdiv 16777216=_
 rw[Int.fdiv_eq_ediv_of_nonneg _ bo%];omega
theorem shr16 (u:Nat):((u:Int)).fdiv (2 ^ (min (16:Int).toNat IntKind.i64.bits))=((u / 65536:Nat):Int):=by
 show ((u:Int)).fdiv 65536=_
 rw[Int.fdiv_eq_ediv_of_nonneg _ bo%];omega
theorem shr8 (u:Nat):((u:Int)).fdiv (2 ^ (min (8:Int).toNat IntKind.i64.bits))=((u / 256:Nat):Int):=by
 show ((u:Int)).fdiv 256=_
 rw[Int.fdiv_eq_ediv_of_nonneg _ bo%];omega
theorem shr0 (u:Nat):((u:Int)).fdiv (2 ^ (min (0:Int).toNat IntKind.i64.bits))=(u:Int):=by
 show ((u:Int)).fdiv 1=_
 rw[Int.fdiv_eq_ediv_of_nonneg _ bo%];omega
theorem and255 (u:Nat) (hu:u≤4294967295):IntKind.i64.wrap ((BitVec.ofInt IntKind.i64.bits (u:Int) &&& BitVec.ofInt IntKind.i64.bits (255:Int)).toNat:Int)=((u % 256:Nat):Int):=by
 have e:(BitVec.ofInt IntKind.i64.bits (u:Int) &&& BitVec.ofInt IntKind.i64.bits (255:Int)).toNat=u % 256:=by
  rw[BitVec.toNat_and]
  have h1:(BitVec.ofInt IntKind.i64.bits (u:Int)).toNat=u:=by
   show (BitVec.ofInt 64 (u:Int)).toNat=u
   rw[BitVec.toNat_ofInt];omega
  have h2:(BitVec.ofInt IntKind.i64.bits (255:Int)).toNat=2 ^ 8-1:=rfl
  rw[h1,h2,Nat.and_two_pow_sub_one_eq_mod]
 rw[e,w64 bo% bo%]
theorem strings_Join_ok {n:Nat} (hn:4194304+1≤n) {xs:List Bs} {s:Bs} (h1:xs.length≤1000000) (h2:(Lib.join xs s).length≤1000000):c_strings_Join n xs s=some (Lib.join xs s,()):=by
 obtain ⟨m,rfl⟩:=sn hn
 rw[eq_strings_Join];unfold x_strings_Join
 simp only[]
 rw[if_pos (by unfold fits;omega)]
theorem join_four (a b c d:Bs):Lib.join [a,b,c,d] [46]=a++46 :: (b++46 :: (c++46 :: d)):=by
 simp[Lib.join,List.intercalate,List.intersperse]
theorem impl_HostPut_ok {n:Nat} (hn:4194304+22≤n) {h:THost} (hs:h.2.1.length≤3000000):ci_HostPut n h=some (putH h,()):=by
 obtain ⟨m,rfl⟩:=sn hn
 rw[ei_HostPut];unfold mi_HostPut
 rw[impl_HostOk_ok bo% hs]
 simp only[Option.bind_some]
 cases ho:okH h with
 | false =>
  unfold putH hostPutM
  unfold okH at ho
  rw[if_neg (by rw[ho];simp)];rfl
 | true =>
  simp only[Bool.not_true,bif_f]
  rw[bif_ndec]
  by_cases h2:h.1=2
  ·rw[if_pos h2]
   obtain ⟨e1,e2,e3⟩:=putH_two ho h2
   rw[e1]
   obtain ⟨u,hu⟩:∃u:Nat,h.2.2.1=(u:Int):=⟨h.2.2.1.toNat,by omega⟩
   rw[hu,toNat_nat]
   have hu2:u≤4294967295:=by omega
   have l1:=dec_len (u / 16777216 % 256) bo%
   have l2:=dec_len (u / 65536 % 256) bo%
   have l3:=dec_len (u / 256 % 256) bo%
   have l4:=dec_len (u % 256) bo%
   have st:∀(out:List Bs) (k:Int) (v:Nat) (self:(List Bs×Int×Unit)→Option (Bs×Unit)),0≤k→k≤24→out.length≤3→h.2.2.1.fdiv (2 ^ (min k.toNat IntKind.i64.bits))=(v:Int)→v≤4294967295 →
     mi_HostPut.l0 m h self (out,k,())=self (out++[Lib.decDigits (v % 256)],k-8,()):=fun out k v self hk0 hk1 ho2 hv hv2=>by
    unfold mi_HostPut.l0
    simp only[hv]
    rw[bif_dec,if_pos hk0,grd_dec,if_pos hk0,and255 v hv2,strconv_Itoa_ok bo% _ bo%]
    simp only[Option.bind_some]
    rw[grd_dec,if_pos (ap_le (by simp;omega)),w64 bo% bo%]
   obtain ⟨k,rfl⟩:∃k,m=k+5:=⟨m-5,by omega⟩
   rw[loopR,st _ 24 (u / 16777216) _ bo% bo% (by simp) (by rw[hu];exact shr24 u) bo%,
    loopR,show (24:Int)-8=16 from rfl,st _ 16 (u / 65536) _ bo% bo% (by simp) (by rw[hu];exact shr16 u) bo%,
    loopR,show (16:Int)-8=8 from rfl,st _ 8 (u / 256) _ bo% bo% (by simp) (by rw[hu];exact shr8 u) bo%,
    loopR,show (8:Int)-8=0 from rfl,st _ 0 u _ bo% bo% (by simp) (by rw[hu];exact shr0 u) bo%,loopR]
   unfold mi_HostPut.l0
   simp only[List.nil_append,List.cons_append]
   rw[bif_dec,if_neg bo%,strings_Join_ok bo% (by simp) (by rw[join_four];simp;omega),Option.bind_some,join_four,show u / 16777216 % 256=u / 16777216 by omega]
   rfl
  ·rw[if_neg h2]
   unfold putH hostPutM
   unfold okH at ho
   rw[if_pos ho,if_neg h2]
def blank (c:UInt8):Bool:=decide (c.toNat≤32)
def seen (c:UInt8):Bool:=!(c==9||c==10||c==13)
def rtr (l:Bs):Bs:=(l.reverse.dropWhile blank).reverse
theorem stripM_eq (l:Bs):stripM l=(rtr (l.dropWhile blank)).filter seen:=rfl
theorem rtr_snoc (t:Bs) (c:UInt8):rtr (t++[c])=if blank c=true then rtr t else t++[c]:=by
 unfold rtr
 rw[List.reverse_append,List.reverse_singleton,List.singleton_append,List.dropWhile_cons]
 split
 ·rfl
 ·simp
theorem rtr_len (l:Bs):(rtr l).length≤l.length:=by
 unfold rtr
 have:=(List.dropWhile_sublist (p:=blank) (l:=l.reverse)).length_le
 simp at this ⊢;omega
theorem seen_int (c:UInt8):seen c=decide (¬(c.toNat:Int)=9∧¬(c.toNat:Int)=10∧¬(c.toNat:Int)=13):=by
 have e1:(c==9)=decide ((c.toNat:Int)=9):=b_is c 9 bo%
 have e2:(c==10)=decide ((c.toNat:Int)=10):=b_is c 10 bo%
 have e3:(c==13)=decide ((c.toNat:Int)=13):=b_is c 13 bo%
 unfold seen
 rw[e1,e2,e3,Bool.eq_iff_iff]
 simp
 omega
theorem spec_filt {m:Nat} (hm:4194304≤m) (s:Bs) (hs:s.length≤4000000):loopR (ms_l3Trim.l0 m (s,())) m (([]:List Int),(0:Int),())=some (s.filter seen,()):=by
 refine loopS s (fun l i st r=>st.2.1=(i:Int)∧st.1.length≤i∧r=(strOf st.1++l.filter seen,())) ?_ ?_ ⟨rfl,by simp,by simp[strOf]⟩ bo%
 ·rintro ⟨out,i0,⟨⟩⟩ r self ⟨hi0,hl,rfl⟩
  simp only at hi0 hl;subst hi0
  unfold ms_l3Trim.l0
  simp (disch:=omega) only [bif_dec,if_neg,List.filter_nil,List.append_nil]
 ·rintro x l i ⟨out,i0,⟨⟩⟩ r self hd hi hx ⟨hi0,hl,rfl⟩ ih
  simp only at hi0 hl;subst hi0
  have hap1:out.length+1≤appBound:=ap_le bo%
  unfold ms_l3Trim.l0
  have yes:seen x=true→self (out++[(x.toNat:Int)],IntKind.i64.wrap ((i:Int)+1),())=some (strOf out++(x :: l).filter seen,()):=fun h =>
   ih _ ⟨w_i bo%,by simp;omega,by simp[strOf_app,strOf_one _ _ rfl,h]⟩
  have no:seen x=false→self (out,IntKind.i64.wrap ((i:Int)+1),())=some (strOf out++(x :: l).filter seen,()):=fun h =>
   ih _ ⟨w_i bo%,by simp only[];omega,by simp[h]⟩
  rw[seen_int] at yes no
  simp (disch:=omega) only [bif_ndec,bif_dec,grd_dec,if_pos,bt_get hx,List.length_cons,List.length_nil,Nat.zero_add,hap1,if_true]
  repeat' split
  all_goals first | exact yes (decide_eq_true bo%) | exact no (decide_eq_false bo%)
theorem spec_rtrim {m:Nat} (hm:4194304+1≤m) (s:Bs) (hs:s.length≤4000000):loopR (ms_l3Trim.l2 m) m (s,())=some ((rtr s).filter seen,()):=by
 refine loopR_ind (fun st=>st.1.length) (fun st r=>st.1.length≤4000000∧r=((rtr st.1).filter seen,())) ?_ m _ _ ⟨hs,rfl⟩ (by simp only[];omega)
 rintro ⟨t,⟨⟩⟩ r self ⟨ht,rfl⟩ ih
 simp only at ht
 unfold ms_l3Trim.l2
 have e1:loopR (ms_l3Trim.l1 m (t,())) m (([]:List Int),(0:Int),())=some (t.filter seen,()):=spec_filt bo% t ht
 rw[e1,spec_filt bo% t ht]
 rcases List.eq_nil_or_concat t with rfl | ⟨u,c,rfl⟩
 ·rfl
 ·simp only[List.concat_eq_append] at *
  have hl:(u++[c]).length=u.length+1:=by simp
  have hw:IntKind.i64.wrap (((u++[c]).length:Int)-1)=((u.length:Nat):Int):=by rw[w64 bo% bo%];omega
  have hb:bt (u++[c]) ((u.length:Nat):Int)=(c.toNat:Int):=bt_get (by simp)
  simp only[hw,hb,toNat_nat,List.drop_zero]
  rw[rtr_snoc]
  simp (disch:=first | omega | (simp only[hl];omega)) only [bif_dec,grd_dec,if_pos]
  by_cases h:(c.toNat:Int)≤32
  ·have hb2:blank c=true:=decide_eq_true bo%
   rw[if_pos h,if_pos hb2]
   have:(u++[c]).take u.length=u:=by simp
   rw[this]
   have:=ih (u,()) (by simp only[hl];omega) ⟨by simp only[];omega,by rw[rtr_snoc,if_pos hb2]⟩
   simpa only [rtr_snoc,hb2,if_true] using this
  ·have hb2:blank c=false:=decide_eq_false bo%
   rw[if_neg h,hb2];simp
theorem spec_l3Trim_ok {n:Nat} (hn:4194304+2≤n) {s:Bs} (hs:s.length≤4000000):cs_l3Trim n s=some (stripM s,()):=by
 obtain ⟨m,rfl⟩:=sn hn
 rw[es_l3Trim];unfold ms_l3Trim
 refine loopR_ind (fun st=>st.1.length) (fun st r=>st.1.length≤4000000∧r=(stripM st.1,())) ?_ m _ _ ⟨hs,rfl⟩ (by simp only[];omega)
 rintro ⟨t,⟨⟩⟩ r self ⟨ht,rfl⟩ ih
 simp only at ht
 unfold ms_l3Trim.l6
 have e1:loopR (ms_l3Trim.l5 m) m (t,())=some ((rtr t).filter seen,()):=spec_rtrim bo% t ht
 rw[e1,spec_rtrim bo% t ht]
 cases t with
 | nil=>rfl
 | cons c l =>
  simp only[take_all]
  simp only[bt_0]
  have hl:(c :: l).length=l.length+1:=by simp
  simp (disch:=first | omega | (simp only[hl];omega)) only [bif_dec,grd_dec,if_pos]
  by_cases h:(c.toNat:Int)≤32
  ·have hb2:blank c=true:=decide_eq_true bo%
   rw[if_pos h]
   have:=ih (l,()) (by simp only[hl];omega) ⟨by simp only[hl] at ht ⊢;omega,by simp only[stripM_eq,List.dropWhile_cons,hb2,if_true]⟩
   exact this
  ·have hb2:blank c=false:=decide_eq_false bo%
   rw[if_neg h,stripM_eq,List.dropWhile_cons,hb2];rfl
theorem impl_filt {m:Nat} (hm:4194304≤m) (x:Bs) (i j:Nat) (s:Bs) (h:(x.take j).drop i=s) (hs:s.length≤4000000):loopR (mi_strip.l0 m x ((j:Int),()) ((i:Int),())) m (([]:List Int),(0:Int),())=some (s.filter seen,()):=by
 refine loopS s (fun l i st r=>st.2.1=(i:Int)∧st.1.length≤i∧r=(strOf st.1++l.filter seen,())) ?_ ?_ ⟨rfl,by simp,by simp[strOf]⟩ bo%
 ·rintro ⟨out,i0,⟨⟩⟩ r self ⟨hi0,hl,rfl⟩
  simp only at hi0 hl;subst hi0
  unfold mi_strip.l0
  simp only[toNat_nat,h,bytesOf_len]
  simp (disch:=omega) only [bif_dec,if_neg,List.filter_nil,List.append_nil]
 ·rintro x l i ⟨out,i0,⟨⟩⟩ r self hd hi hx ⟨hi0,hl,rfl⟩ ih
  simp only at hi0 hl;subst hi0
  have hap1:out.length+1≤appBound:=ap_le bo%
  unfold mi_strip.l0
  have yes:seen x=true→self (out++[(x.toNat:Int)],IntKind.i64.wrap ((i:Int)+1),())=some (strOf out++(x :: l).filter seen,()):=fun h =>
   ih _ ⟨w_i bo%,by simp;omega,by simp[strOf_app,strOf_one _ _ rfl,h]⟩
  have no:seen x=false→self (out,IntKind.i64.wrap ((i:Int)+1),())=some (strOf out++(x :: l).filter seen,()):=fun h =>
   ih _ ⟨w_i bo%,by simp only[];omega,by simp[h]⟩
  rw[seen_int] at yes no
  simp only[toNat_nat,h,bytesOf_len,bytesOf_get _ _ _ hx]
  simp (disch:=omega) only [bif_ndec,bif_dec,grd_dec,if_pos,List.length_cons,List.length_nil,Nat.zero_add,hap1,if_true]
  repeat' split
  all_goals first | exact yes (decide_eq_true bo%) | exact no (decide_eq_false bo%)
theorem impl_rtrim {m:Nat} (hm:4194304+1≤m) (x:Bs) (hx:x.length≤4000000) (i:Nat) (hi:i≤x.length):loopR (mi_strip.l2 m ((i:Int),()) x) m ((x.length:Int),())=some ((rtr (x.drop i)).filter seen,()):=by
 have key:∀r:Bs×Unit,r=((rtr ((x.take x.length).drop i)).filter seen,())→loopR (mi_strip.l2 m ((i:Int),()) x) m ((x.length:Int),())=some r:=fun r hr=>by
  refine loopR_ind (fun st=>st.1.toNat) (fun st r=>∃j:Nat,st.1=(j:Int)∧i≤j∧j≤x.length∧r=((rtr ((x.take j).drop i)).filter seen,())) ?_ m _ _ ⟨x.length,rfl,hi,Nat.le_refl _,hr⟩ (by simp only[toNat_nat];omega)
  rintro ⟨j0,⟨⟩⟩ r self ⟨j,hj,h1,h2,rfl⟩ ih
  simp only at hj;subst hj
  have hlen:((x.take j).drop i).length≤4000000:=by simp;omega
  unfold mi_strip.l2
  have e1:loopR (mi_strip.l1 m x ((j:Int),()) ((i:Int),())) m (([]:List Int),(0:Int),())=some (((x.take j).drop i).filter seen,()):=impl_filt bo% x i j _ rfl hlen
  rw[e1,impl_filt bo% x i j _ rfl hlen]
  rcases Nat.lt_or_ge i j with h | h
  ·obtain ⟨k,rfl⟩:∃k,j=k+1:=⟨j-1,by omega⟩
   have hk:k<x.length:=by omega
   have hg:x[k]? = some x[k]:=List.getElem?_eq_getElem hk
   generalize x[k]=c at hg
   have hw:IntKind.i64.wrap (((k+1:Nat):Int)-1)=(k:Int):=by rw[w64 bo% bo%];omega
   simp only[hw,bt_get hg]
   simp (disch:=omega) only [bif_dec,grd_dec,if_pos]
   rw[seg_succ bo% hg,rtr_snoc]
   by_cases hc:(c.toNat:Int)≤32
   ·have hb2:blank c=true:=decide_eq_true bo%
    rw[if_pos hc,if_pos hb2]
    have:=ih ((k:Int),()) (by simp only[toNat_nat];omega) ⟨k,rfl,by omega,by omega,by rw[seg_succ bo% hg,rtr_snoc,if_pos hb2]⟩
    simpa only [seg_succ (show i≤k by omega) hg,rtr_snoc,hb2,if_true] using this
   ·have hb2:blank c=false:=decide_eq_false bo%
    rw[if_neg hc,hb2];simp
  ·have:i=j:=by omega
   subst this
   simp (disch:=omega) only [bif_dec,grd_dec,if_pos,if_neg]
   rw[seg_self];rfl
 rw[key _ rfl,List.take_length]
theorem impl_strip_ok {n:Nat} (hn:4194304+2≤n) {s:Bs} (hs:s.length≤4000000):ci_strip n s=some (stripM s,()):=by
 obtain ⟨m,rfl⟩:=sn hn
 rw[ei_strip];unfold mi_strip
 refine loopS s (fun l i st r=>st.1=(i:Int)∧s.drop i=l∧r=((rtr (l.dropWhile blank)).filter seen,())) ?_ ?_ ⟨rfl,rfl,rfl⟩ bo%
 ·rintro ⟨i0,⟨⟩⟩ r self ⟨hi0,hd,rfl⟩
  simp only at hi0;subst hi0
  unfold mi_strip.l6
  rw[bif_dec,if_neg bo%]
  have e1:loopR (mi_strip.l5 m ((s.length:Int),()) s) m ((s.length:Int),())=some ((rtr (s.drop s.length)).filter seen,()):=impl_rtrim bo% s hs s.length (Nat.le_refl _)
  rw[e1,hd];rfl
 ·rintro x l i ⟨i0,⟨⟩⟩ r self hd hi hx ⟨hi0,_,rfl⟩ ih
  simp only at hi0;subst hi0
  unfold mi_strip.l6
  simp (disch:=omega) only [bif_dec,grd_dec,if_pos,bt_get hx]
  by_cases hc:(x.toNat:Int)≤32
  ·have hb2:blank x=true:=decide_eq_true bo%
   rw[if_pos hc]
   refine ih _ ⟨w_i bo%,(at_cons hd).2.2,by simp only[List.dropWhile_cons,hb2,if_true]⟩
  ·have hb2:blank x=false:=decide_eq_false bo%
   rw[if_neg hc,impl_rtrim bo% s hs i bo%,hd,List.dropWhile_cons,hb2];rfl
end Go.VM.T
namespace Go.VM.T
open Go Go.VM
def scanM (pre:Bs):Bs→Option (Bs×Bs)
 | []=>none
 | c :: l=>if c=58∧pre≠[] then some (lowM pre,l) else if letB c=true∨(pre≠[]∧schB c=true) then scanM (pre++[c]) l else none
theorem schB_int (c:UInt8):schB c=decide (((97≤(c.toNat:Int)∧(c.toNat:Int)≤122)∨(65≤(c.toNat:Int)∧(c.toNat:Int)≤90))∨(48≤(c.toNat:Int)∧(c.toNat:Int)≤57)∨(c.toNat:Int)=43∨(c.toNat:Int)=45∨(c.toNat:Int)=46):=by
 have e1:(c==43)=decide ((c.toNat:Int)=43):=b_is c 43 bo%
 have e2:(c==45)=decide ((c.toNat:Int)=45):=b_is c 45 bo%
 have e3:(c==46)=decide ((c.toNat:Int)=46):=b_is c 46 bo%
 unfold schB
 rw[letB_int,digB_int,e1,e2,e3,Bool.eq_iff_iff]
 simp
 omega
theorem scan_go (a:UInt8):∀(l pre:Bs),pre≠[]→scanM pre l=(match cut1 58 l with
  | (s,some r)=>if s.all schB=true then some (lowM (pre++s),r) else none
  | _=>none)
 | [],pre,_=>rfl
 | c :: l,pre,hp=>by
  simp only[scanM,cut1]
  by_cases h:c=58
  ·rw[if_pos ⟨h,hp⟩,if_pos h];simp
  ·rw[if_neg (fun q=>h q.1),if_neg h]
   by_cases g:schB c=true
   ·rw[if_pos (.inr ⟨hp,g⟩),scan_go a l (pre++[c]) (by simp)]
    cases hc:cut1 58 l with
    | mk s o =>
     cases o with
     | none=>rfl
     | some r=>simp[g]
   ·rw[if_neg (by
     rintro (q | q)
     ·exact g (by unfold schB;rw[q];rfl)
     ·exact g q.2)]
    cases hc:cut1 58 l with
    | mk s o =>
     cases o with
     | none=>rfl
     | some r=>simp[g]
theorem scan_eq (l:Bs):scanM [] l=schM l:=by
 cases l with
 | nil=>rfl
 | cons c l =>
  unfold schM
  simp only[scanM,cut1]
  rw[if_neg (fun q=>q.2 rfl)]
  by_cases h:c=58
  ·rw[if_pos h,if_neg (by rintro (q | q);(subst h;revert q;decide);exact q.1 rfl)]
  ·rw[if_neg h]
   by_cases g:letB c=true
   ·rw[if_pos (.inl g),scan_go c l ([]++[c]) (by simp)]
    cases hc:cut1 58 l with
    | mk s o =>
     cases o with
     | none=>rfl
     | some r=>simp[g]
   ·rw[if_neg (by rintro (q | q);exact g q;exact q.1 rfl)]
    cases hc:cut1 58 l with
    | mk s o =>
     cases o with
     | none=>rfl
     | some r=>simp[g]
def schR (o:Option (Bs×Bs)):Bs×Bs×Bool×Unit:=match o with | some p=>(p.1,p.2,true,()) | none=>([],[],false,())
theorem schR_some (p:Bs×Bs):schR (some p)=(p.1,p.2,true,()):=by simp[schR]
theorem schR_none:schR none=([],[],false,()):=by simp[schR]
theorem spec_l3Scheme_ok {n:Nat} (hn:4194304+2≤n) {s:Bs} (hs:s.length≤4000000):cs_l3Scheme n s=some (schR (schM s)):=by
 obtain ⟨m,rfl⟩:=sn hn
 rw[es_l3Scheme,←scan_eq];unfold ms_l3Scheme
 refine loopS s (fun l i st r=>st.1=(i:Int)∧r=schR (scanM (s.take i) l)) ?_ ?_ ⟨rfl,rfl⟩ bo%
 ·rintro ⟨i0,⟨⟩⟩ r self ⟨hi0,rfl⟩
  simp only at hi0;subst hi0
  unfold ms_l3Scheme.l0
  rw[bif_dec,if_neg bo%];rfl
 ·rintro x l i ⟨i0,⟨⟩⟩ r self hd hi hx ⟨hi0,rfl⟩ ih
  simp only at hi0;subst hi0
  have hb:=byte_le x
  have hpre:s.take i≠[]↔0<i:=by
   rw[ne_eq,List.take_eq_nil_iff]
   constructor
   ·intro h;omega
   ·intro h q;rcases q with q | q
    ·omega
    ·subst q;simp at hi
  have e58:((x.toNat:Int)=58)↔x=58:=byte_is x 58 bo%
  unfold ms_l3Scheme.l0
  have yes:¬(x=58∧0<i)→(letB x=true∨(0<i∧schB x=true))→self (IntKind.i64.wrap ((i:Int)+1),())=some (schR (scanM (s.take i) (x :: l))):=fun h1 h2=>by
   refine ih _ ⟨w_i bo%,?_⟩
   simp only[scanM]
   rw[if_neg (fun q=>h1 ⟨q.1,hpre.1 q.2⟩),if_pos (h2.imp id fun q=>⟨hpre.2 q.1,q.2⟩),take_succ' hx]
  have no:¬(x=58∧0<i)→¬(letB x=true∨(0<i∧schB x=true))→some (([]:Bs),([]:Bs),false,())=some (schR (scanM (s.take i) (x :: l))):=fun h1 h2=>by
   simp only[scanM]
   rw[if_neg (fun q=>h1 ⟨q.1,hpre.1 q.2⟩),if_neg (fun q=>h2 (q.imp id fun q=>⟨hpre.1 q.1,q.2⟩)),schR_none]
  have fin:x=58→0<i→some (lowM (s.take i),s.drop (i+1),true,())=some (schR (scanM (s.take i) (x :: l))):=fun h1 h2=>by
   simp only[scanM]
   rw[if_pos ⟨h1,hpre.2 h2⟩,schR_some,(at_cons hd).2.2]
  rw[letB_int,schB_int,decide_eq_true_iff,decide_eq_true_iff,←e58] at yes no
  rw[←e58] at fin
  have g0:(0:Int)≤(i:Int):=by omega
  have g1:(i:Int)<(s.length:Int):=by omega
  have g2:(i:Int)≤(s.length:Int):=by omega
  have g3:(0:Int)≤((i+1:Nat):Int):=by omega
  have g4:((i+1:Nat):Int)≤(s.length:Int):=by omega
  have hlow:=spec_Lower_ok (n:=m) bo% (s:=s.take i) (by simp;omega)
  have hw:=w_i (show i≤4000000 by omega)
  simp only[bif_dec,grd_dec,bt_get hx,toNat_nat,hw,take_all,List.drop_zero,hlow,Option.bind_some,g0,g1,g2,g3,g4,if_true]
  rw[hw] at yes
  generalize (x.toNat:Int)=X at *
  all_goals (by_cases h0:97≤X <;> (try simp only[h0,if_true,if_false]) <;> (try (first | (refine yes ?_ ?_ <;> omega) | (refine no ?_ ?_ <;> omega) | (refine fin ?_ ?_ <;> omega))))
  all_goals (by_cases h1:X≤122 <;> (try simp only[h1,if_true,if_false]) <;> (try (first | (refine yes ?_ ?_ <;> omega) | (refine no ?_ ?_ <;> omega) | (refine fin ?_ ?_ <;> omega))))
  all_goals (by_cases h2:65≤X <;> (try simp only[h2,if_true,if_false]) <;> (try (first | (refine yes ?_ ?_ <;> omega) | (refine no ?_ ?_ <;> omega) | (refine fin ?_ ?_ <;> omega))))
  all_goals (by_cases h3:X≤90 <;> (try simp only[h3,if_true,if_false]) <;> (try (first | (refine yes ?_ ?_ <;> omega) | (refine no ?_ ?_ <;> omega) | (refine fin ?_ ?_ <;> omega))))
  all_goals (by_cases h4:X=58 <;> (try simp only[h4,if_true,if_false]) <;> (try (first | (refine yes ?_ ?_ <;> omega) | (refine no ?_ ?_ <;> omega) | (refine fin ?_ ?_ <;> omega))))
  all_goals (by_cases h5:(0:Int)<(i:Int) <;> (try simp only[h5,if_true,if_false]) <;> (try (first | (refine yes ?_ ?_ <;> omega) | (refine no ?_ ?_ <;> omega) | (refine fin ?_ ?_ <;> omega))))
  all_goals (by_cases h6:48≤X <;> (try simp only[h6,if_true,if_false]) <;> (try (first | (refine yes ?_ ?_ <;> omega) | (refine no ?_ ?_ <;> omega) | (refine fin ?_ ?_ <;> omega))))
  all_goals (by_cases h7:X≤57 <;> (try simp only[h7,if_true,if_false]) <;> (try (first | (refine yes ?_ ?_ <;> omega) | (refine no ?_ ?_ <;> omega) | (refine fin ?_ ?_ <;> omega))))
  all_goals (by_cases h8:X=43 <;> (try simp only[h8,if_true,if_false]) <;> (try (first | (refine yes ?_ ?_ <;> omega) | (refine no ?_ ?_ <;> omega) | (refine fin ?_ ?_ <;> omega))))
  all_goals (by_cases h9:X=45 <;> (try simp only[h9,if_true,if_false]) <;> (try (first | (refine yes ?_ ?_ <;> omega) | (refine no ?_ ?_ <;> omega) | (refine fin ?_ ?_ <;> omega))))
  all_goals (by_cases h10:X=46 <;> (try simp only[h10,if_true,if_false]) <;> (try (first | (refine yes ?_ ?_ <;> omega) | (refine no ?_ ?_ <;> omega) | (refine fin ?_ ?_ <;> omega))))
theorem strings_Cut_ok {n:Nat} (hn:4194304+1≤n) {s:Bs} (hs:s.length≤4000000) (c:UInt8):c_strings_Cut n s [c]=some ((cut1 c s).1,((cut1 c s).2.getD []),(cut1 c s).2.isSome,()):=by
 obtain ⟨m,rfl⟩:=sn hn
 rw[eq_strings_Cut];unfold x_strings_Cut
 simp only[]
 rw[if_pos (by unfold fits;omega)]
theorem cut1_len (c:UInt8):∀s:Bs,(cut1 c s).1.length≤s.length∧((cut1 c s).2.getD []).length≤s.length
 | []=>by simp[cut1]
 | x :: l=>by
  have:=cut1_len c l
  simp only[cut1]
  split
  ·simp
  ·simp;omega
theorem impl_schemeOf_ok {n:Nat} (hn:4194304+2≤n) {s:Bs} (hs:s.length≤4000000):ci_schemeOf n s=some (schR (schM s)):=by
 obtain ⟨m,rfl⟩:=sn hn
 rw[ei_schemeOf];unfold mi_schemeOf
 rw[strings_Cut_ok bo% hs]
 simp only[Option.bind_some]
 have hl:=cut1_len 58 s
 unfold schM
 generalize cut1 58 s=p at *
 obtain ⟨a,o⟩:=p
 simp only at hl
 cases o with
 | none=>simp[schR_none]
 | some r =>
  simp only[Option.isSome_some,Bool.not_true,bif_f,Option.getD_some]
  cases a with
  | nil=>simp[schR_none]
  | cons c t =>
   simp only[]
   have e:((c :: t)==([]:Bs))=false:=rfl
   have lp:letB c=true→loopR (mi_schemeOf.l0 m (c :: t,r,true,())) m ((0:Int),())=some (schR (if letB c=true∧t.all schB=true then some (lowM (c :: t),r) else none)):=fun hc=>by
    have hall:(c :: t).all schB=t.all schB:=by simp[schB,hc]
    have hif:(if letB c=true∧t.all schB=true then some (lowM (c :: t),r) else none)=(if (c :: t).all schB=true then some (lowM (c :: t),r) else none):=by rw[hall];simp[hc]
    rw[hif]
    refine loopS (c :: t) (fun l i st q=>st.1=(i:Int)∧q=schR (if l.all schB=true then some (lowM (c :: t),r) else none)) ?_ ?_ ⟨rfl,rfl⟩ bo%
    ·rintro ⟨i0,⟨⟩⟩ q self ⟨hi0,rfl⟩
     simp only at hi0;subst hi0
     unfold mi_schemeOf.l0
     simp (disch:=omega) only [bif_dec,if_neg,impl_Lower_ok,Option.bind_some]
     rw[List.all_nil,if_pos rfl,schR_some]
    ·rintro x l i ⟨i0,⟨⟩⟩ q self hd hi hx ⟨hi0,hq⟩ ih
     simp only at hi0;subst hi0
     have hb:=byte_le x
     unfold mi_schemeOf.l0
     have yes:schB x=true→self (IntKind.i64.wrap ((i:Int)+1),())=some q:=fun h=>ih _ ⟨w_i bo%,by rw[hq];simp[h]⟩
     have no:schB x=false→some (([]:Bs),([]:Bs),false,())=some q:=fun h=>by rw[hq];simp[h,schR_none]
     rw[schB_int] at yes no
     simp (disch:=omega) only [bif_dec,bif_ndec,grd_dec,if_pos,bt_get hx,impl_isLetter_ok,impl_isDigit_ok,letB_int,digB_int,Option.bind_some]
     repeat' split
     all_goals first | (refine yes (decide_eq_true ?_);omega) | (refine no (decide_eq_false ?_);omega) | skip
   simp only[e,bif_f,bt_0]
   have hlc:(0:Int)<((c :: t).length:Int):=by simp
   simp (disch:=omega) only [grd_dec,if_pos,impl_isLetter_ok,Option.bind_some]
   cases hc:letB c with
   | false=>simp[schR_none]
   | true =>
    have:=lp hc
    rw[hc] at this
    exact this
theorem at_from (any l:Bs):l.take (atM any l).length=atM any l∧l.drop (atM any l).length=fromM any l:=by
 unfold atM fromM
 induction l with
 | nil=>simp
 | cons c l ih =>
  simp only[List.takeWhile_cons,List.dropWhile_cons]
  cases h:any.contains c with
  | true=>simp
  | false=>simpa using ih
theorem at_len (any l:Bs):(atM any l).length≤l.length:=(List.takeWhile_sublist _).length_le
theorem from_len (any l:Bs):(fromM any l).length≤l.length:=(List.dropWhile_sublist _).length_le
theorem indexAny_at (any:Bs):∀l:Bs,Lib.indexAny l any=if (atM any l).length=l.length then -1 else ((atM any l).length:Int)
 | []=>by simp[Lib.indexAny,atM]
 | c :: l=>by
  have ih:=indexAny_at any l
  have hl:=at_len any l
  simp only[Lib.indexAny]
  unfold atM at *
  simp only[List.takeWhile_cons]
  by_cases h:any.contains c=true
  ·rw[if_pos h,h];simp
  ·rw[if_neg h,Bool.eq_false_iff.2 h,ih]
   simp only[Bool.not_false,if_true,List.length_cons]
   generalize (l.takeWhile fun c=>!any.contains c).length=T at *
   by_cases g:T=l.length
   ·rw[if_pos g,show ((-1:Int) == -1)=true from rfl,if_pos (show T+1=l.length+1 by omega)];simp
   ·have q:((T:Int) == -1)=false:=by rw[beq_eq_false_iff_ne];omega
    rw[if_neg g,q,if_neg (show ¬T+1=l.length+1 by omega)];simp
theorem impl_upTo_ok {n:Nat} (hn:4194304+2≤n) {s any:Bs} (hs:s.length≤4000000) (h2:2≤any.length) (h8:any.length≤8) (ha:any.all (fun b=>b.toNat<128)=true):ci_upTo n s any=some (atM any s,fromM any s,()):=by
 obtain ⟨m,rfl⟩:=sn hn
 rw[ei_upTo];unfold mi_upTo
 obtain ⟨m,rfl⟩:=sn (n:=m) (k:=1) bo%
 rw[eq_strings_IndexAny];unfold x_strings_IndexAny
 simp only[]
 rw[if_pos ⟨by unfold fits;omega,h2,h8,ha⟩]
 simp only[Option.bind_some]
 rw[indexAny_at]
 obtain ⟨e1,e2⟩:=at_from any s
 have hl:=at_len any s
 split
 ·rename_i h
  rw[bif_dec,if_pos bo%]
  rw[h,List.take_length] at e1
  rw[h,List.drop_length] at e2
  rw[←e1,←e2]
 ·rename_i h
  rw[bif_dec,if_neg bo%]
  simp (disch:=omega) only [grd_dec,if_pos,toNat_nat,List.drop_zero,take_all,e1,e2]
theorem spec_PathPut_go {n:Nat} (hn:4194304+1≤n) {xs:List Bs} (hx:xs.length≤4000000) (hl:(pathM xs).length≤4000000):cs_PathPut n xs=some (pathM xs,()):=by
 obtain ⟨m,rfl⟩:=sn hn
 rw[es_PathPut];unfold ms_PathPut
 refine loopS xs (fun l i st r=>st.2.1=(i:Int)∧st.1.length+(pathM l).length≤4000000∧r=(st.1++pathM l,())) ?_ ?_ ⟨rfl,by simpa using hl,by simp⟩ bo%
 ·rintro ⟨out,i0,⟨⟩⟩ r self ⟨hi0,h,rfl⟩
  simp only at hi0 h;subst hi0
  unfold ms_PathPut.l0
  simp only[]
  rw[bif_dec,if_neg bo%]
  simp[pathM]
 ·rintro x l i ⟨out,i0,⟨⟩⟩ r self hd hi hg ⟨hi0,h,rfl⟩ ih
  simp only at hi0 h;subst hi0
  simp only[pathM,List.length_append,List.length_cons] at h
  unfold ms_PathPut.l0
  simp only[toNat_nat,getD_get _ hg]
  rw[bif_dec,if_pos bo%,grd_dec,if_pos (by simp;omega),grd_dec,if_pos bo%,grd_dec,if_pos bo%,grd_dec,if_pos (by simp;omega)]
  refine ih _ ⟨w_i bo%,?_,?_⟩
  ·simp;omega
  ·simp[pathM]
theorem impl_PathPut_ok {n:Nat} (hn:4194304+1≤n) {xs:List Bs} (hl:(pathM xs).length≤4000000):ci_PathPut n xs=some (pathM xs,()):=by
 obtain ⟨m,rfl⟩:=sn hn
 rw[ei_PathPut];unfold x_impl_PathPut
 simp only[]
 rw[if_pos (by unfold fits;omega)]
theorem pathM_len (xs:List Bs):xs.length≤(pathM xs).length:=by
 induction xs with
 | nil=>simp
 | cons x l ih=>simp[pathM];omega
theorem spec_PathPut_ok {n:Nat} (hn:4194304+1≤n) {xs:List Bs} (hl:(pathM xs).length≤4000000):cs_PathPut n xs=some (pathM xs,()) :=
 spec_PathPut_go hn (by have:=pathM_len xs;omega) hl
end Go.VM.T
namespace Go.VM.T
open Go Go.VM
theorem strings_ReplaceAll_ok {n:Nat} (hn:4194304+1≤n) {s a b:Bs} (hs:s.length≤4000000) (ha:1≤a.length) (hb:b.length≤a.length) (hne:a≠b):c_strings_ReplaceAll n s a b=some (repM a b s,()):=by
 obtain ⟨m,rfl⟩:=sn hn
 rw[eq_strings_ReplaceAll];unfold x_strings_ReplaceAll
 simp only[]
 rw[if_pos ⟨by unfold fits;omega,ha,hb⟩,replaceAll_rep (by intro e;subst e;simp at ha) hne]
theorem set_cong:(∀c,(setsL.getD 1 []).contains c=setP.contains c)∧(∀c,(setsL.getD 2 []).contains c=setQ.contains c)∧(∀c,(setsL.getD 3 []).contains c=setF.contains c)∧(∀c,(setsL.getD 4 []).contains c=setU.contains c)∧(∀c,(setsL.getD 5 []).contains c=setO.contains c):=by
 refine ⟨fun c=>?_,fun c=>?_,fun c=>?_,fun c=>?_,fun c=>?_⟩
 all_goals simp only[setsL,setP,setQ,setF,setU,setO,List.getD_cons_succ,List.getD_cons_zero,List.contains_cons,List.contains_nil,Bool.or_false]
 all_goals try ac_rfl
theorem impl_encode_ok {n:Nat} (hn:4194304+1≤n) {s:Bs} (hs:s.length≤4000000) (k:Nat) (hk:1≤k∧k≤5):ci_encode n (k:Int) s=some (encM (setsL.getD k []) s,()):=by
 obtain ⟨m,rfl⟩:=sn hn
 rw[ei_encode];unfold x_impl_encode
 simp only[]
 rw[if_pos (by unfold fits;omega),if_pos bo%,toNat_nat]
theorem encode1 {n:Nat} (hn:4194304+1≤n) {s:Bs} (hs:s.length≤4000000):ci_encode n 1 s=some (encM setP s,()):=(impl_encode_ok hn hs 1 bo%).trans (by rw[encM_cong set_cong.1])
theorem encode2 {n:Nat} (hn:4194304+1≤n) {s:Bs} (hs:s.length≤4000000):ci_encode n 2 s=some (encM setQ s,()):=(impl_encode_ok hn hs 2 bo%).trans (by rw[encM_cong set_cong.2.1])
theorem encode3 {n:Nat} (hn:4194304+1≤n) {s:Bs} (hs:s.length≤4000000):ci_encode n 3 s=some (encM setF s,()):=(impl_encode_ok hn hs 3 bo%).trans (by rw[encM_cong set_cong.2.2.1])
theorem encode4 {n:Nat} (hn:4194304+1≤n) {s:Bs} (hs:s.length≤4000000):ci_encode n 4 s=some (encM setU s,()):=(impl_encode_ok hn hs 4 bo%).trans (by rw[encM_cong set_cong.2.2.2.1])
theorem encode5 {n:Nat} (hn:4194304+1≤n) {s:Bs} (hs:s.length≤4000000):ci_encode n 5 s=some (encM setO s,()):=(impl_encode_ok hn hs 5 bo%).trans (by rw[encM_cong set_cong.2.2.2.2])
theorem sEncode1 {n:Nat} (hn:4194304+2≤n) {s:Bs} (hs:s.length≤200):cs_Encode n 1 s=some (encM setP s,()):=spec_Encode_ok hn hs (any:=setP) (by decide) (by simp)
theorem sEncode2 {n:Nat} (hn:4194304+2≤n) {s:Bs} (hs:s.length≤200):cs_Encode n 2 s=some (encM setQ s,()):=spec_Encode_ok hn hs (any:=setQ) (by decide) (by simp)
theorem sEncode3 {n:Nat} (hn:4194304+2≤n) {s:Bs} (hs:s.length≤200):cs_Encode n 3 s=some (encM setF s,()):=spec_Encode_ok hn hs (any:=setF) (by decide) (by simp)
theorem sEncode4 {n:Nat} (hn:4194304+2≤n) {s:Bs} (hs:s.length≤200):cs_Encode n 4 s=some (encM setU s,()):=spec_Encode_ok hn hs (any:=setU) (by decide) (by simp)
theorem sEncode5 {n:Nat} (hn:4194304+2≤n) {s:Bs} (hs:s.length≤200):cs_Encode n 5 s=some (encM setO s,()):=spec_Encode_ok hn hs (any:=setO) (by decide) (by simp)
theorem impl_portOf_ok {n:Nat} (hn:4194304+2≤n) {s:Bs} (hs:s.length≤4000000) (own:Int):ci_portOf n s own=some (numR (portM own s)):=by
 obtain ⟨m,rfl⟩:=sn hn
 rw[ei_portOf,←portM_eq];unfold mi_portOf
 refine loopS s (fun l i st r=>st.2.1=(i:Int)∧0≤st.1∧st.1≤65536∧r=numR (portGo own s st.1 l)) ?_ ?_ ⟨rfl,by simp,by simp,rfl⟩ bo%
 ·rintro ⟨v,i0,⟨⟩⟩ r self ⟨hi0,h0,h1,rfl⟩
  simp only at hi0;subst hi0
  unfold mi_portOf.l0
  simp (disch:=omega) only [bif_dec,if_neg,beq_dec s [],portGo]
  by_cases g1:65535<v
  ·rw[if_pos g1,if_pos g1];rfl
  ·rw[if_neg g1,if_neg g1]
   by_cases g2:s=[]
   ·rw[if_pos g2,if_pos (.inl g2)];rfl
   ·rw[if_neg g2]
    by_cases g3:v=own
    ·rw[if_pos g3,if_pos (.inr g3)];rfl
    ·rw[if_neg g3,if_neg (fun h=>h.elim g2 g3)];rfl
 ·rintro x l i ⟨v,i0,⟨⟩⟩ r self hd hi hx ⟨hi0,h0,h1,rfl⟩ ih
  simp only at hi0 h0 h1;subst hi0
  have hb:=byte_le x
  unfold mi_portOf.l0
  simp (disch:=omega) only [bif_dec,grd_dec,if_pos,bt_get hx,impl_isDigit_ok,Option.bind_some]
  cases hdg:digB x with
  | false=>simp[portGo,hdg,numR]
  | true =>
   have hd2:=hdg
   rw[digB_int,decide_eq_true_iff] at hd2
   simp only[Bool.not_true,bif_f]
   rw[w8 bo% bo%,w64 (x:=(x.toNat:Int)-48) bo% bo%,w64 (x:=10*v) bo% bo%,w64 bo% bo%]
   refine ih _ ⟨w_i bo%,by simp only[];omega,by simp only[];omega,?_⟩
   simp[portGo,hdg]
theorem spec_l3Port_ok {n:Nat} (hn:4194304+3≤n) {s:Bs} (hs:s.length≤4000000) (own:Int):cs_l3Port n s own=some ((portM own s).getD (-2),()):=by
 obtain ⟨m,rfl⟩:=sn hn
 rw[es_l3Port];unfold ms_l3Port portM
 rw[spec_l2Digits_ok bo% hs bo%]
 simp only[Option.bind_some]
 rw[spec_l1In_ok bo%]
 simp only[Option.bind_some,beq_dec s [],bif_dec,bif_ndec]
 by_cases h:s=[]
 ·rw[if_pos h,if_pos h];rfl
 ·rw[if_neg h,if_neg h]
  cases hd:digM 10 0 s with
  | none=>simp
  | some v =>
   have hr:=digM_range 10 bo% s 0 v bo% bo% hd
   simp only[Option.getD_some,Option.bind_some]
   by_cases g:v≤65535
   ·rw[if_pos ⟨hr.1,g⟩,if_neg (show ¬65535<v by omega)]
    by_cases g2:v=own
    ·rw[if_pos g2,if_pos g2];rfl
    ·rw[if_neg g2,if_neg g2];rfl
   ·rw[if_neg (fun q=>g q.2),if_pos (show 65535<v by omega)];rfl
theorem cut1_fst (c:UInt8) (s:Bs):(cut1 c s).1=s.take (atM [c] s).length∧((cut1 c s).2.isSome=decide ((atM [c] s).length<s.length))∧(cut1 c s).2.getD []=s.drop ((atM [c] s).length+1):=by
 rw[cut1_at]
 refine ⟨(at_from [c] s).1.symm,?_,?_⟩
 ·simp only[]
  split <;> simp_all
 ·simp only[]
  split
  ·rfl
  ·rename_i h
   have:=at_len [c] s
   rw[List.drop_eq_nil_of_le bo%];rfl
theorem spec_l3Tail_ok {n:Nat} (hn:4194304+3≤n) {u:TUrl} {s:Bs} (hs:s.length≤200):cs_l3Tail n u s=some (tailS u s,()):=by
 obtain ⟨m,rfl⟩:=sn hn
 rw[es_l3Tail];unfold ms_l3Tail
 rw[spec_l1At_ok bo% bo% (by simp)]
 simp only[Option.bind_some]
 obtain ⟨e1,e2,e3⟩:=cut1_fst 35 s
 have hl:=at_len [35] s
 unfold tailS
 rw[e1,e2,e3]
 generalize (atM [35] s).length=k at *
 have hk:(s.take k).length=k:=by simp;omega
 simp only[toNat_nat,List.drop_zero,take_all]
 have e4:List.drop (Int.toNat 1) (s.take k)=(s.take k).drop 1:=rfl
 simp only[beq_dec (s.take k) [],bif_dec,bif_ndec,e4]
 rw[sEncode2 bo% (s:=(s.take k).drop 1) (by simp;omega)]
 simp only[Option.bind_some]
 by_cases g:k<s.length
 ·have hw:IntKind.i64.wrap ((k:Int)+1)=((k+1:Nat):Int):=w_i bo%
  simp only[hw,toNat_nat]
  rw[if_pos bo%,sEncode3 bo% (by simp;omega)]
  simp (disch:=omega) only [Option.bind_some,grd_dec,if_pos]
  by_cases q:s.take k=[]
  ·rw[if_pos q];simp[q,g]
  ·have hk1:1≤k:=by
    rcases Nat.eq_zero_or_pos k with rfl | h
    ·simp at q
    ·exact h
   rw[if_neg q,if_pos bo%]
   simp[q,g]
 ·rw[if_neg bo%]
  simp (disch:=omega) only [Option.bind_some,grd_dec,if_pos]
  by_cases q:s.take k=[]
  ·rw[if_pos q]
   have:decide (k<s.length)=false:=decide_eq_false g
   simp[q,this]
  ·have hk1:1≤k:=by
    rcases Nat.eq_zero_or_pos k with rfl | h
    ·simp at q
    ·exact h
   have:decide (k<s.length)=false:=decide_eq_false g
   rw[if_neg q,if_pos bo%]
   simp[q,this]
abbrev TUrlT:=Bs×Bs×Bs×THost×Int×Nat×Bs×Bool×Bs×Bool×Bs×Unit
def tailT (u:TUrlT) (s:Bs):TUrlT :=
 (u.1,u.2.1,u.2.2.1,u.2.2.2.1,u.2.2.2.2.1,u.2.2.2.2.2.1,u.2.2.2.2.2.2.1,decide ((cut1 35 s).1≠[]),encM setQ ((cut1 35 s).1.drop 1),(cut1 35 s).2.isSome,encM setF ((cut1 35 s).2.getD []),())
theorem impl_Url_tail_ok {n:Nat} (hn:4194304+2≤n) (u:TUrlT) {s:Bs} (hs:s.length≤4000000):ci_Url_tail n u s=some (tailT u s,()):=by
 obtain ⟨m,rfl⟩:=sn hn
 rw[ei_Url_tail];unfold mi_Url_tail tailT
 have hl:=cut1_len 35 s
 rw[strings_Cut_ok bo% hs]
 simp only[Option.bind_some]
 rw[encode3 bo% bo%]
 simp only[Option.bind_some]
 generalize (cut1 35 s).1=q at *
 simp only[take_all]
 have e4:List.drop (Int.toNat 1) q=q.drop 1:=rfl
 rw[e4,encode2 bo% (s:=q.drop 1) (by simp;omega)]
 cases q with
 | nil=>simp[encM]
 | cons c t =>
  have e:((c :: t)==([]:Bs))=false:=rfl
  simp only[e,Bool.not_false,bif_t,Option.bind_some]
  rw[grd_dec,if_pos bo%,grd_dec,if_pos (by simp;omega)]
  simp
end Go.VM.T
namespace Go.VM.T
open Go Go.VM
theorem spec_l3Dots_ok {n:Nat} (hn:4194304+2≤n) {s:Bs} (hs:s.length≤4000000):cs_l3Dots n s=some (dotsM s,()):=by
 obtain ⟨m,rfl⟩:=sn hn
 rw[es_l3Dots];unfold ms_l3Dots dotsM
 rw[spec_Lower_ok bo% hs]
 simp only[Option.bind_some]
 generalize lowM s=x
 simp only[beq_dec x,bif_dec]
 by_cases h1:x=[46]
 ·simp[h1]
 ·by_cases h2:x=[37,50,101]
  ·simp[h2]
  ·by_cases h3:x=[46,46]
   ·simp[h3]
   ·by_cases h4:x=[46,37,50,101]
    ·simp[h4]
    ·by_cases h5:x=[37,50,101,46]
     ·simp[h5]
     ·by_cases h6:x=[37,50,101,37,50,101] <;> simp[h1,h2,h3,h4,h5,h6]
theorem impl_dots_ok {n:Nat} (hn:4194304+2≤n) {s:Bs} (hs:s.length≤4000000):ci_dots n s=some (dotsM s,()):=by
 obtain ⟨m,rfl⟩:=sn hn
 rw[ei_dots,←dots_rep];unfold mi_dots rep3
 rw[impl_Lower_ok bo% hs]
 simp only[Option.bind_some]
 rw[strings_ReplaceAll_ok bo% (by rw[lowM_len];omega) (by simp) (by simp) (by simp)]
 simp only[Option.bind_some]
 generalize repM [37,50,101] [46] (lowM s)=x
 simp only[beq_dec x,bif_dec]
 by_cases h1:x=[46]
 ·simp[h1]
 ·by_cases h2:x=[46,46] <;> simp[h1,h2]
theorem spec_l3Pieces_ok {n:Nat} (hn:4194304+2≤n) {s:Bs} (hs:s.length≤4000000):cs_l3Pieces n s=some (piecesM s,()):=by
 obtain ⟨m,rfl⟩:=sn hn
 rw[es_l3Pieces];unfold ms_l3Pieces piecesM
 refine loopS s (fun l i st r=>st.1=(i:Int)∧st.2.1=bytesOf ((s.take i).map slB)++bytesOf l∧r=(cutM 47 (s.map slB),())) ?_ ?_ ⟨rfl,by simp[bytesOf],rfl⟩ bo%
 ·rintro ⟨i0,row,⟨⟩⟩ r self ⟨hi0,hr,rfl⟩
  simp only at hi0 hr;subst hi0;subst hr
  unfold ms_l3Pieces.l0
  have e:bytesOf ((s.take s.length).map slB)++bytesOf []=bytesOf (s.map slB):=by rw[List.take_length];simp[bytesOf]
  simp only[e,bytesOf_len,List.length_map]
  rw[bif_dec,if_neg bo%,strOf_bytes,show (47:Int)=((47:UInt8).toNat:Int) from rfl,spec_l1Cut_ok bo% (by simp;omega)]
  rfl
 ·rintro x l i ⟨i0,row,⟨⟩⟩ r self hd hi hx ⟨hi0,hr,rfl⟩ ih
  simp only at hi0 hr;subst hi0
  have hlen:row.length=s.length:=by rw[hr];simp[bytesOf_len];have:=congrArg List.length hd;simp at this;omega
  have hA:(bytesOf ((s.take i).map slB)).length=i:=by simp[bytesOf_len];omega
  have hg:row.getD i 0=(x.toNat:Int):=by rw[hr];exact getD_app _ _ _ _ _ hA
  have hset:∀v:Int,row.set i v=bytesOf ((s.take i).map slB)++v :: bytesOf l:=fun v=>by
   rw[hr];exact set_app _ _ _ _ _ hA
  have htk:bytesOf ((s.take (i+1)).map slB)=bytesOf ((s.take i).map slB)++[((slB x).toNat:Int)]:=by
   rw[take_succ' hx];simp[bytesOf]
  have key:∀row',row'=bytesOf ((s.take i).map slB)++((slB x).toNat:Int) :: bytesOf l→self (IntKind.i64.wrap ((i:Int)+1),row',())=some (cutM 47 (s.map slB),()):=fun row' h =>
   ih _ ⟨w_i bo%,by simp only[];rw[h,htk];simp,rfl⟩
  have e92:((x.toNat:Int)=92)↔x=92:=byte_is x 92 bo%
  unfold ms_l3Pieces.l0
  simp (disch:=omega) only [bif_dec,grd_dec,if_pos,toNat_nat,hg]
  by_cases h:x=92
  ·rw[if_pos (e92.2 h)]
   refine key _ ?_
   rw[hset,h];rfl
  ·rw[if_neg (fun q=>h (e92.1 q))]
   refine key _ ?_
   rw[hr];simp[slB,h,bytesOf]
theorem dropLast_take {α:Type} (l:List α):l.take (l.length-1)=l.dropLast:=by rw[List.dropLast_eq_take]
theorem spec_l3Walk_ok {n:Nat} (hn:4194304+3≤n) {out parts:List Bs} (h1:out.length≤1000000) (h2:parts.length≤1000000) (h3:∀p∈parts,p.length≤200):cs_l3Walk n out parts=some (walkM out parts,()):=by
 obtain ⟨m,rfl⟩:=sn hn
 rw[es_l3Walk];unfold ms_l3Walk
 rw[grd_dec,if_pos (ap_le (by simp;omega)),List.nil_append]
 refine loopS parts (fun l i st r=>st.2.1=(i:Int)∧st.1.length≤out.length+i∧r=(walkM st.1 l,())) ?_ ?_ ⟨rfl,by simp,rfl⟩ bo%
 ·rintro ⟨o,i0,⟨⟩⟩ r self ⟨hi0,hl,rfl⟩
  simp only at hi0;subst hi0
  unfold ms_l3Walk.l0
  simp only[]
  rw[bif_dec,if_neg bo%];rfl
 ·rintro p l i ⟨o,i0,⟨⟩⟩ r self hd hi hx ⟨hi0,hl,rfl⟩ ih
  simp only at hi0 hl;subst hi0
  have hp:=h3 p (List.mem_of_getElem? hx)
  have hlen:parts.length=i+l.length+1:=by have:=congrArg List.length hd;simp at this;omega
  have hw:IntKind.i64.wrap ((parts.length:Int)-1)=((parts.length-1:Nat):Int):=by rw[w64 bo% bo%];omega
  unfold ms_l3Walk.l0
  simp only[toNat_nat,getD_get _ hx,hw]
  rw[spec_l3Dots_ok bo% bo%,sEncode1 bo% hp]
  simp only[Option.bind_some]
  have hlast:((i:Int)=((parts.length-1:Nat):Int))=(l=[]):=by
   apply propext
   rw[←List.length_eq_zero_iff];omega
  have key:∀o1:List Bs,o1.length≤o.length→walkM o (p :: l)=walkM (if dotsM p=0 then o1++[encM setP p] else if l=[] then o1++[[]] else o1) l →
    (∀o2:List Bs,o2=(if dotsM p=0 then o1++[encM setP p] else if l=[] then o1++[[]] else o1)→self (o2,IntKind.i64.wrap ((i:Int)+1),())=some (walkM o (p :: l),())):=fun o1 ho1 he o2 h2=>by
   refine ih _ ⟨w_i bo%,?_,?_⟩
   ·simp only[]
    rw[h2]
    split
    ·simp;omega
    ·split <;> first | omega | (simp;omega)
   ·simp only[];rw[he,←h2]
  simp (disch:=omega) only [bif_dec,grd_dec,if_pos,hlast]
  by_cases g2:dotsM p=2
  ·rw[if_pos g2]
   have g0:¬dotsM p=0:=by omega
   have K:=key o.dropLast (by simp) (by simp only[walkM];rw[if_pos g2])
   simp only[g0,if_false] at K
   by_cases gl:0<o.length
   ·have hw2:IntKind.i64.wrap ((o.length:Int)-1)=((o.length-1:Nat):Int):=by rw[w64 bo% bo%];omega
    rw[if_pos bo%]
    simp only[hw2,toNat_nat,List.drop_zero,dropLast_take]
    rw[if_pos bo%,if_pos bo%,if_neg g0]
    by_cases q:l=[]
    ·rw[if_pos q,if_pos (ap_le (by simp;omega))]
     exact K _ (by rw[if_pos q])
    ·rw[if_neg q]
     exact K _ (by rw[if_neg q])
   ·have:o=[]:=List.eq_nil_of_length_eq_zero bo%
    subst this
    rw[if_neg bo%,if_neg g0]
    by_cases q:l=[]
    ·rw[if_pos q,if_pos (ap_le (by simp))]
     exact K _ (by rw[if_pos q];rfl)
    ·rw[if_neg q]
     exact K _ (by rw[if_neg q];rfl)
  ·rw[if_neg g2]
   have K:=key o (Nat.le_refl _) (by simp only[walkM];rw[if_neg g2])
   by_cases g0:dotsM p=0
   ·rw[if_pos g0,if_pos (ap_le (by simp;omega))]
    exact K _ (by rw[if_pos g0])
   ·rw[if_neg g0]
    by_cases q:l=[]
    ·rw[if_pos q,if_pos (ap_le (by simp;omega))]
     exact K _ (by rw[if_neg g0,if_pos q])
    ·rw[if_neg q]
     exact K _ (by rw[if_neg g0,if_neg q])
theorem impl_clone_ok {n:Nat} (hn:4194304+1≤n) {xs:List Bs} (h:xs.length≤4000000):ci_clone_string n xs=some (xs,()):=by
 obtain ⟨m,rfl⟩:=sn hn
 rw[ei_clone_string];unfold x_impl_clone_string
 simp only[]
 rw[if_pos (by unfold fits;omega)]
theorem impl_walk_ok {n:Nat} (hn:4194304+3≤n) {out:List Bs} {t:Bs} (h1:out.length≤1000000) (h2:t.length≤1000000):ci_walk n out t=some (walkM out (piecesM t),()):=by
 obtain ⟨m,rfl⟩:=sn hn
 rw[ei_walk];unfold mi_walk
 rw[impl_clone_ok bo% bo%]
 simp only[Option.bind_some]
 rw[strings_ReplaceAll_ok bo% bo% (by simp) (by simp) (by simp),rep_slash]
 simp only[Option.bind_some]
 rw[strings_Split_ok bo% (by simp;omega)]
 simp only[Option.bind_some]
 rw[show cutM 47 (t.map slB)=piecesM t from rfl]
 have hpl:(piecesM t).length≤t.length+1:=by have:=cutM_len 47 (t.map slB);simpa [piecesM] using this
 have h3:∀p∈piecesM t,p.length≤1000000:=fun p hp=>by have:=cutM_sub 47 (t.map slB) p hp;simp at this;omega
 generalize piecesM t=parts at *
 refine loopS parts (fun l i st r=>st.2.1=(i:Int)∧st.1.length≤out.length+i∧r=(walkM st.1 l,())) ?_ ?_ ⟨rfl,by simp,rfl⟩ bo%
 ·rintro ⟨o,i0,⟨⟩⟩ r self ⟨hi0,hl,rfl⟩
  simp only at hi0 hl;subst hi0
  unfold mi_walk.l0
  simp only[]
  rw[bif_dec,if_neg bo%,impl_clone_ok bo% bo%];rfl
 ·rintro p l i ⟨o,i0,⟨⟩⟩ r self hd hi hx ⟨hi0,hl,rfl⟩ ih
  simp only at hi0 hl;subst hi0
  have hp:=h3 p (List.mem_of_getElem? hx)
  have hlen:parts.length=i+l.length+1:=by have:=congrArg List.length hd;simp at this;omega
  have hw:IntKind.i64.wrap ((parts.length:Int)-1)=((parts.length-1:Nat):Int):=by rw[w64 bo% bo%];omega
  unfold mi_walk.l0
  simp only[toNat_nat,getD_get _ hx,hw]
  rw[impl_dots_ok bo% bo%,encode1 bo% bo%]
  simp only[Option.bind_some]
  have hlast:((i:Int)=((parts.length-1:Nat):Int))=(l=[]):=by
   apply propext
   rw[←List.length_eq_zero_iff];omega
  have key:∀o1:List Bs,o1.length≤o.length→walkM o (p :: l)=walkM (if dotsM p=0 then o1++[encM setP p] else if l=[] then o1++[[]] else o1) l →
    (∀o2:List Bs,o2=(if dotsM p=0 then o1++[encM setP p] else if l=[] then o1++[[]] else o1)→self (o2,IntKind.i64.wrap ((i:Int)+1),())=some (walkM o (p :: l),())):=fun o1 ho1 he o2 h2=>by
   refine ih _ ⟨w_i bo%,?_,?_⟩
   ·simp only[]
    rw[h2]
    split
    ·simp;omega
    ·split <;> first | omega | (simp;omega)
   ·simp only[];rw[he,←h2]
  simp (disch:=omega) only [bif_dec,grd_dec,if_pos,hlast]
  by_cases g0:dotsM p=0
  ·have g2:¬dotsM p=2:=by omega
   have K:=key o (Nat.le_refl _) (by simp only[walkM];rw[if_neg g2])
   rw[if_pos g0,if_pos (ap_le (by simp;omega))]
   exact K _ (by rw[if_pos g0])
  ·rw[if_neg g0]
   by_cases g2:dotsM p=2
   ·rw[if_pos g2]
    have K:=key o.dropLast (by simp) (by simp only[walkM];rw[if_pos g2])
    simp only[g0,if_false] at K
    by_cases gl:0<o.length
    ·have hw2:IntKind.i64.wrap ((o.length:Int)-1)=((o.length-1:Nat):Int):=by rw[w64 bo% bo%];omega
     rw[if_pos bo%]
     simp only[hw2,toNat_nat,List.drop_zero,dropLast_take]
     rw[if_pos bo%,if_pos bo%]
     by_cases q:l=[]
     ·rw[if_pos q,if_pos (ap_le (by simp;omega))]
      exact K _ (by rw[if_pos q])
     ·rw[if_neg q]
      exact K _ (by rw[if_neg q])
    ·have:o=[]:=List.eq_nil_of_length_eq_zero bo%
     subst this
     rw[if_neg bo%]
     by_cases q:l=[]
     ·rw[if_pos q,if_pos (ap_le (by simp))]
      exact K _ (by rw[if_pos q];rfl)
     ·rw[if_neg q]
      exact K _ (by rw[if_neg q];rfl)
   ·have K:=key o (Nat.le_refl _) (by simp only[walkM];rw[if_neg g2])
    rw[if_neg g2]
    by_cases q:l=[]
    ·rw[if_pos q,if_pos (ap_le (by simp;omega))]
     exact K _ (by rw[if_neg g0,if_pos q])
    ·rw[if_neg q]
     exact K _ (by rw[if_neg g0,if_neg q])
theorem pieces_ok {t:Bs} (h:t.length≤200):(piecesM t).length≤201∧∀p∈piecesM t,p.length≤200:=by
 constructor
 ·have:=cutM_len 47 (t.map slB);simp[piecesM] at this ⊢;omega
 ·intro p hp;have:=cutM_sub 47 (t.map slB) p hp;simp at this;omega
theorem isSl_int (c:UInt8):isSl c=decide ((c.toNat:Int)=47∨(c.toNat:Int)=92):=by
 have e1:(c==47)=decide ((c.toNat:Int)=47):=b_is c 47 bo%
 have e2:(c==92)=decide ((c.toNat:Int)=92):=b_is c 92 bo%
 unfold isSl
 rw[e1,e2,Bool.eq_iff_iff];simp
theorem spec_PathGet_ok {n:Nat} (hn:4194304+4≤n) {s:Bs} (hs:s.length≤4000000):cs_PathGet n s=some (pathGetM s,()):=by
 obtain ⟨m,rfl⟩:=sn hn
 rw[es_PathGet];unfold ms_PathGet pathGetM
 by_cases h:200<s.length
 ·rw[bif_dec,if_pos bo%,if_pos h]
 rw[bif_dec,if_neg bo%,if_neg h]
 have go:∀t:Bs,t.length≤200→((cs_l3Pieces m t).bind fun y1=>(cs_l3Walk m ([]:List Bs) y1.1).bind fun y2=>some y2)=some (walkM [] (piecesM t),()):=fun t ht=>by
  obtain ⟨a,b⟩:=pieces_ok ht
  rw[spec_l3Pieces_ok bo% bo%]
  simp only[Option.bind_some]
  rw[spec_l3Walk_ok bo% (by simp) bo% b];rfl
 cases s with
 | nil =>
  rw[bif_dec,if_neg (by simp)]
  exact go [] (by simp)
 | cons c l =>
  have hl:(c :: l).length=l.length+1:=by simp
  simp only[take_all,bt_0]
  have e4:List.drop (Int.toNat 1) (c :: l)=l:=rfl
  simp only[e4]
  rw[go l bo%,go (c :: l) bo%]
  simp (disch:=first | omega | (simp only[hl];omega)) only [bif_dec,grd_dec,if_pos]
  rw[isSl_int]
  by_cases g1:(c.toNat:Int)=47
  ·rw[if_pos g1,if_pos (by simp[g1])]
  ·rw[if_neg g1]
   by_cases g2:(c.toNat:Int)=92
   ·rw[if_pos g2,if_pos (by simp[g2])]
   ·rw[if_neg g2,if_neg (by simp[g1,g2])]
theorem impl_PathGet_ok {n:Nat} (hn:4194304+4≤n) {s:Bs} (hs:s.length≤4000000):ci_PathGet n s=some (pathGetM s,()):=by
 obtain ⟨m,rfl⟩:=sn hn
 rw[ei_PathGet];unfold mi_PathGet pathGetM
 by_cases h:200<s.length
 ·rw[bif_dec,if_pos bo%,if_pos h]
 rw[bif_dec,if_neg bo%,if_neg h]
 cases s with
 | nil =>
  have e:(([]:Bs)==([]:Bs))=true:=rfl
  simp only[e,Bool.not_true,bif_f]
  rw[impl_walk_ok bo% (by simp) (by simp)];rfl
 | cons c l =>
  have e:((c :: l)==([]:Bs))=false:=rfl
  have hl:(c :: l).length=l.length+1:=by simp
  simp only[e,Bool.not_false,bif_t,take_all,bt_0]
  have e4:List.drop (Int.toNat 1) (c :: l)=l:=rfl
  rw[e4,impl_isSlash_ok bo%,impl_walk_ok bo% (by simp) bo%,impl_walk_ok bo% (by simp) bo%]
  simp (disch:=first | omega | (simp only[hl];omega)) only [grd_dec,if_pos,Option.bind_some]
  cases isSl c <;> rfl
def whoM (u:TUrl) (s:Bs):TUrl :=
 (u.1,encM setU (cut1 58 s).1,(if (cut1 58 s).2.isSome then encM setU ((cut1 58 s).2.getD []) else u.2.2.1),u.2.2.2)
theorem spec_l3Who_ok {n:Nat} (hn:4194304+3≤n) {u:TUrl} {s:Bs} (hs:s.length≤200):cs_l3Who n u s=some (whoM u s,()):=by
 obtain ⟨m,rfl⟩:=sn hn
 rw[es_l3Who];unfold ms_l3Who
 rw[spec_l1At_ok bo% bo% (by simp)]
 simp only[Option.bind_some]
 obtain ⟨e1,e2,e3⟩:=cut1_fst 58 s
 have hl:=at_len [58] s
 unfold whoM
 rw[e1,e2,e3]
 generalize (atM [58] s).length=k at *
 have hw:IntKind.i64.wrap ((k:Int)+1)=((k+1:Nat):Int):=w_i bo%
 simp only[toNat_nat,List.drop_zero,take_all,hw]
 rw[sEncode4 bo% (s:=s.take k) (by simp;omega),sEncode4 bo% (s:=s.drop (k+1)) (by simp;omega)]
 simp (disch:=omega) only [Option.bind_some,grd_dec,if_pos,bif_dec]
 by_cases g:k<s.length
 ·rw[if_pos bo%]
  simp[g]
 ·rw[if_neg bo%]
  simp[g]
end Go.VM.T
namespace Go.VM.T
open Go Go.VM
theorem joinE_i {A R:Type} (x:A) (f:A→Option R):joinE f (Sum.inl x:A ⊕ R)=f x:=rfl
theorem nil_dec (s:Bs):(s==([]:Bs))=decide (s=[]):=beq_dec s []
theorem impl_tailText_ok {n:Nat} (hn:4194304+1≤n) {u:TUrl} (hu:szU u≤3000000):ci_Url_tailText n u=some (tailTextM u,()):=by
 obtain ⟨m,rfl⟩:=sn hn
 rw[ei_Url_tailText];unfold mi_Url_tailText tailTextM
 unfold szU at hu
 simp (disch:=first | omega | (simp only[List.length_append,List.length_cons,List.length_nil];omega)) only [grd_dec,if_pos]
 cases u.2.2.2.2.2.2.2.1 <;> cases u.2.2.2.2.2.2.2.2.2.1 <;> simp
theorem fourT_le (u:Nat) (hu:u<4294967296):(fourT u).length≤87:=fourT_len u hu
theorem putH_len (h:THost):(putH h).length≤h.2.1.length+87:=by
 unfold putH hostPutM
 split
 ·rename_i ho
  split
  ·rename_i h2
   rw[h2] at ho
   have:=hostOk_two ho
   have:=fourT_le h.2.2.1.toNat bo%
   omega
  ·omega
 ·simp
theorem portT_len {p:Int} (hp:p≤9223372036854775807):(portT p).length≤22:=by
 unfold portT
 split
 ·have:=dec_len p.toNat bo%;simp;omega
 ·simp
theorem tailText_len (u:TUrl):(tailTextM u).length≤u.2.2.2.2.2.2.2.2.1.length+u.2.2.2.2.2.2.2.2.2.2.1.length+2:=by
 unfold tailTextM
 split <;> split <;> simp <;> omega
theorem l1Dec_port {m:Nat} (hm:4194304+20≤m) {p:Int} (h0:0≤p) (h1:p≤9223372036854775807):cs_l1Dec m p=some (Lib.decDigits p.toNat,()):=by
 have:=spec_l1Dec_ok hm p.toNat bo%
 rwa [show ((p.toNat:Nat):Int)=p by omega] at this
theorem Itoa_port {m:Nat} (hm:4194304+1≤m) {p:Int} (h0:0≤p) (h1:p≤9223372036854775807):c_strconv_Itoa m p=some (Lib.decDigits p.toNat,()):=by
 have:=strconv_Itoa_ok hm p.toNat bo%
 rwa [show ((p.toNat:Nat):Int)=p by omega] at this
theorem spec_l3Put_ok {n:Nat} (hn:4194304+24≤n) {u:TUrl} (hu:BU u):cs_l3Put n u=some (putM u,()):=by
 obtain ⟨m,rfl⟩:=sn hn
 obtain ⟨hu,hp⟩:=hu
 have hz:=hu
 unfold szU at hz
 rw[es_l3Put]
 have L3:=putH_len u.2.2.2.1
 have L4:=portT_len hp
 have j2:∀s:Bs,s.length≤40000000→ms_l3Put.j2 m u (s,())=some (s++(if u.2.2.2.2.2.2.2.2.2.1=true then 35 :: u.2.2.2.2.2.2.2.2.2.2.1 else []),()):=fun s hs=>by
  unfold ms_l3Put.j2
  simp (disch:=first | omega | (simp only[List.length_append,List.length_cons,List.length_nil];omega)) only [grd_dec,if_pos]
  cases u.2.2.2.2.2.2.2.2.2.1 <;> simp
 have j3:∀s:Bs,s.length≤30000000→ms_l3Put.j3 m u (s,())=some (s++tailTextM u,()):=fun s hs=>by
  unfold ms_l3Put.j3 tailTextM
  simp (disch:=first | omega | (simp only[List.length_append,List.length_cons,List.length_nil];omega)) only [grd_dec,if_pos]
  cases u.2.2.2.2.2.2.2.1 with
  | true=>simp only[bif_t,if_true];simp only[Option.bind_some,joinE_i];rw[j2 _ (by simp;omega)];simp
  | false=>simp only[bif_f,Bool.false_eq_true,if_false];simp only[Option.bind_some,joinE_i];rw[j2 _ bo%];simp
 have j0:∀s:Bs,s.length≤20000000→ms_l3Put.j0 m u (s,())=some (.inl (s++pathM u.2.2.2.2.2.1,())):=fun s hs=>by
  unfold ms_l3Put.j0
  rw[spec_PathPut_ok bo% bo%]
  simp only[Option.bind_some]
  rw[grd_dec,if_pos bo%]
 have j1:∀s:Bs,s.length≤10000000→ms_l3Put.j1 m u (s,())=some (.inl (s++(putH u.2.2.2.1++(portT u.2.2.2.2.1++pathM u.2.2.2.2.2.1)),())):=fun s hs=>by
  unfold ms_l3Put.j1
  rw[spec_HostPut_ok bo% bo%]
  simp only[Option.bind_some]
  rw[grd_dec,if_pos bo%]
  unfold portT at *
  by_cases h0:0≤u.2.2.2.2.1
  ·rw[if_pos h0] at L4 ⊢
   simp only[List.length_cons] at L4
   rw[l1Dec_port bo% h0 hp]
   simp (disch:=first | omega | (simp only[List.length_append,List.length_cons,List.length_nil];omega)) only [Option.bind_some,grd_dec,if_pos,bif_dec,h0,if_true,joinE_i]
   rw[j0 _ (by simp;omega)];simp
  ·rw[if_neg h0]
   rw[bif_dec,if_neg h0];simp only[Option.bind_some,joinE_i];rw[j0 _ (by simp;omega)];simp
 unfold ms_l3Put putM
 rw[spec_l3Own_ok bo%]
 simp only[Option.bind_some,nil_dec,bif_ndec]
 simp (disch:=first | omega | (simp only[List.length_append,List.length_cons,List.length_nil];omega)) only [grd_dec,if_pos,bif_dec]
 by_cases hs:portS u.1<0
 ·simp only[hs,if_true]
  simp only[Option.bind_some,joinE_i];rw[j3 _ (by simp;omega)];simp
 ·simp only[hs,if_false]
  unfold whoT
  by_cases g1:u.2.1=[]
  ·by_cases g2:u.2.2.1=[]
   ·simp only[g1,g2,if_true]
    simp only[Option.bind_some,joinE_i];rw[j1 _ (by simp;omega)]
    simp only[Option.bind_some,joinE_i];rw[j3 _ (by simp;omega)];simp
   ·simp only[g1,g2,if_true,if_false]
    simp only[Option.bind_some,joinE_i];rw[j1 _ (by simp;omega)]
    simp only[Option.bind_some,joinE_i];rw[j3 _ (by simp;omega)];simp[g2]
  ·by_cases g2:u.2.2.1=[]
   ·simp only[g1,g2,if_true,if_false]
    simp only[Option.bind_some,joinE_i];rw[j1 _ (by simp;omega)]
    simp only[Option.bind_some,joinE_i];rw[j3 _ (by simp;omega)];simp[g1]
   ·simp only[g1,g2,if_false]
    simp only[Option.bind_some,joinE_i];rw[j1 _ (by simp;omega)]
    simp only[Option.bind_some,joinE_i];rw[j3 _ (by simp;omega)];simp[g1,g2]
theorem impl_Url_text_ok {n:Nat} (hn:4194304+24≤n) {u:TUrl} (hu:BU u):ci_Url_text n u=some (putM u,()):=by
 obtain ⟨m,rfl⟩:=sn hn
 obtain ⟨hu,hp⟩:=hu
 have hz:=hu
 unfold szU at hz
 rw[ei_Url_text]
 have L3:=putH_len u.2.2.2.1
 have L4:=portT_len hp
 have L5:=tailText_len u
 have j0:∀s:Bs,s.length≤20000000→mi_Url_text.j0 m u (s,())=some (s++(pathM u.2.2.2.2.2.1++tailTextM u),()):=fun s hs=>by
  unfold mi_Url_text.j0
  rw[impl_PathPut_ok bo% bo%,impl_tailText_ok bo% hu]
  simp (disch:=first | omega | (simp only[List.length_append,List.length_cons,List.length_nil];omega)) only [Option.bind_some,grd_dec,if_pos]
  simp
 have j1:∀s:Bs,s.length≤10000000→mi_Url_text.j1 m u (s,())=some (s++(putH u.2.2.2.1++(portT u.2.2.2.2.1++(pathM u.2.2.2.2.2.1++tailTextM u))),()):=fun s hs=>by
  unfold mi_Url_text.j1
  rw[impl_HostPut_ok bo% bo%]
  simp only[Option.bind_some]
  rw[grd_dec,if_pos bo%]
  unfold portT at *
  by_cases h0:0≤u.2.2.2.2.1
  ·rw[if_pos h0] at L4 ⊢
   simp only[List.length_cons] at L4
   rw[Itoa_port bo% h0 hp]
   simp (disch:=first | omega | (simp only[List.length_append,List.length_cons,List.length_nil];omega)) only [Option.bind_some,grd_dec,if_pos,bif_dec,h0,if_true,joinE_i]
   rw[j0 _ (by simp;omega)];simp
  ·rw[if_neg h0]
   rw[bif_dec,if_neg h0];simp only[Option.bind_some,joinE_i];rw[j0 _ (by simp;omega)];simp
 unfold mi_Url_text putM
 rw[impl_special_ok bo%,impl_tailText_ok bo% hu]
 simp only[Option.bind_some,nil_dec,bif_ndec]
 simp (disch:=first | omega | (simp only[List.length_append,List.length_cons,List.length_nil];omega)) only [grd_dec,if_pos]
 by_cases hs:portS u.1<0
 ·have hs':¬0≤portS u.1:=by omega
  simp only[hs,hs',if_true,if_false]
  simp
 ·have hs':0≤portS u.1:=by omega
  simp only[hs,hs',if_true,if_false]
  unfold whoT
  by_cases g1:u.2.1=[]
  ·by_cases g2:u.2.2.1=[]
   ·simp only[g1,g2,if_true]
    simp only[Option.bind_some,joinE_i];rw[j1 _ (by simp;omega)];simp
   ·simp only[g1,g2,if_true,if_false]
    simp only[Option.bind_some,joinE_i];rw[j1 _ (by simp;omega)];simp[g2]
  ·by_cases g2:u.2.2.1=[]
   ·simp only[g1,g2,if_true,if_false]
    simp only[Option.bind_some,joinE_i];rw[j1 _ (by simp;omega)];simp[g1]
   ·simp only[g1,g2,if_false]
    simp only[Option.bind_some,joinE_i];rw[j1 _ (by simp;omega)];simp[g1,g2]
end Go.VM.T
namespace Go.VM.T
open Go Go.VM
theorem ee64 (x:UInt8):((x.toNat:Int)=64)↔x=64:=byte_is x 64 bo%
def authS (u:TUrl) (s:Bs):TUrl×Bool×Unit :=
 let a:=atSign s
 let w:=match a.1 with | some w=>whoM u w | none=>u
 let hp:=cut1 58 a.2
 let p:=(portM (portS u.1) (hp.2.getD [])).getD (-2)
 let h:=hostR (hostGetM hp.1)
 ((w.1,w.2.1,w.2.2.1,h.1,p,w.2.2.2.2.2),h.2.1&&decide (¬p = -2),())
theorem atSign_len (s:Bs):(atSign s).2.length≤s.length∧∀w,(atSign s).1=some w→w.length≤s.length:=by
 unfold atSign
 split
 ·refine ⟨by simp,fun w h=>?_⟩
  cases h;rw[List.length_take];omega
 ·exact ⟨Nat.le_refl _,fun w h=>by cases h⟩
theorem port_nil (own:Int):(portM own []).getD (-2) = -1:=by simp[portM]
theorem spec_l3Authority_ok {n:Nat} (hn:4194304+8≤n) {u:TUrl} {s:Bs} (hs:s.length≤200):cs_l3Authority n u s=some (authS u s):=by
 obtain ⟨m,rfl⟩:=sn hn
 rw[es_l3Authority];unfold ms_l3Authority
 have fin:∀(k:Int) (self:(Int×Int×Unit)→Option (TUrl×Bool×Unit)),k=lastIx 64 s→ms_l3Authority.l0 m s u self (k,(s.length:Int),())=some (authS u s):=fun k self hk=>by
  have hr:=lastIx_range 64 s
  rw[←hk] at hr
  unfold ms_l3Authority.l0
  rw[bif_dec,if_neg (by simp)]
  simp only[take_all]
  have hw:IntKind.i64.wrap (k+1)=k+1:=w64 bo% bo%
  have h0:(0:Int)≤k+1:=by omega
  have h1:k+1≤(s.length:Int):=by omega
  simp only[hw]
  have tl:∀(w:TUrl),w.1=u.1→∀t:Bs,t.length≤200→((cs_l1At m t ([58]:Bs)).bind fun y4=>grd (decide (0≤y4.1)) (grd (decide (y4.1≤(t.length:Int))) ((cs_HostGet m ((t.take y4.1.toNat).drop 0)).bind fun y5=>bif (decide (y4.1<(t.length:Int))) then (grd (decide (0≤(IntKind.i64.wrap (y4.1+(1:Int))))) (grd (decide ((IntKind.i64.wrap (y4.1+(1:Int)))≤(t.length:Int))) ((cs_l3Own m w.1).bind fun y6=>(cs_l3Port m (t.drop (IntKind.i64.wrap (y4.1+(1:Int))).toNat) y6.1).bind fun y7=>bif y5.2.1 then (some ((w.1,w.2.1,w.2.2.1,y5.1,y7.1,w.2.2.2.2.2.1,w.2.2.2.2.2.2.1,w.2.2.2.2.2.2.2.1,w.2.2.2.2.2.2.2.2.1,w.2.2.2.2.2.2.2.2.2.1,w.2.2.2.2.2.2.2.2.2.2.1,()),(!decide (y7.1=(-2:Int))),())) else (some ((w.1,w.2.1,w.2.2.1,y5.1,y7.1,w.2.2.2.2.2.1,w.2.2.2.2.2.2.1,w.2.2.2.2.2.2.2.1,w.2.2.2.2.2.2.2.2.1,w.2.2.2.2.2.2.2.2.2.1,w.2.2.2.2.2.2.2.2.2.2.1,()),false,()))))) else (bif y5.2.1 then (some ((w.1,w.2.1,w.2.2.1,y5.1,(-1:Int),w.2.2.2.2.2.1,w.2.2.2.2.2.2.1,w.2.2.2.2.2.2.2.1,w.2.2.2.2.2.2.2.2.1,w.2.2.2.2.2.2.2.2.2.1,w.2.2.2.2.2.2.2.2.2.2.1,()),(!decide ((-1:Int)=(-2:Int))),())) else (some ((w.1,w.2.1,w.2.2.1,y5.1,(-1:Int),w.2.2.2.2.2.1,w.2.2.2.2.2.2.1,w.2.2.2.2.2.2.2.1,w.2.2.2.2.2.2.2.2.1,w.2.2.2.2.2.2.2.2.2.1,w.2.2.2.2.2.2.2.2.2.2.1,()),false,())))))) =
    some ((w.1,w.2.1,w.2.2.1,(hostR (hostGetM (cut1 58 t).1)).1,(portM (portS u.1) ((cut1 58 t).2.getD [])).getD (-2),w.2.2.2.2.2),(hostR (hostGetM (cut1 58 t).1)).2.1&&decide (¬(portM (portS u.1) ((cut1 58 t).2.getD [])).getD (-2) = -2),()):=fun w hwu t ht=>by
   obtain ⟨e1,e2,e3⟩:=cut1_fst 58 t
   have hl:=at_len [58] t
   rw[spec_l1At_ok bo% bo% (by simp)]
   simp only[Option.bind_some]
   rw[e1,e3]
   generalize (atM [58] t).length=q at *
   have hwq:IntKind.i64.wrap ((q:Int)+1)=((q+1:Nat):Int):=w_i bo%
   simp only[toNat_nat,List.drop_zero,hwq]
   rw[spec_HostGet_ok bo% (by simp;omega),spec_l3Own_ok bo%,hwu]
   simp only[Option.bind_some]
   rw[spec_l3Port_ok bo% (by simp;omega)]
   simp only[Option.bind_some]
   rw[grd_dec,if_pos bo%,grd_dec,if_pos bo%,bif_dec]
   by_cases g:q<t.length
   ·rw[if_pos bo%,grd_dec,if_pos bo%,grd_dec,if_pos bo%]
    cases (hostR (hostGetM (t.take q))).2.1 with
    | true=>simp
    | false=>simp
   ·rw[if_neg bo%,List.drop_eq_nil_of_le bo%,port_nil]
    cases (hostR (hostGetM (t.take q))).2.1 with
    | true=>simp
    | false=>simp
  unfold authS atSign
  rw[←hk]
  by_cases g:0≤k
  ·obtain ⟨j,rfl⟩:∃j:Nat,k=(j:Int):=⟨k.toNat,by omega⟩
   have h3:(((j:Int)+1)).toNat=j+1:=by omega
   simp only[h3,toNat_nat,List.drop_zero]
   rw[bif_dec,if_pos g,grd_dec,if_pos g,grd_dec,if_pos bo%,spec_l3Who_ok bo% (by simp;omega)]
   simp only[Option.bind_some]
   rw[grd_dec,if_pos h0,grd_dec,if_pos h1,if_pos g]
   exact tl (whoM u (s.take j)) rfl (s.drop (j+1)) (by simp;omega)
  ·have h3:(k+1).toNat=0:=by omega
   simp only[h3,List.drop_zero]
   rw[bif_dec,if_neg g,grd_dec,if_pos h0,grd_dec,if_pos h1,if_neg g]
   exact tl u rfl s hs
 refine loopS s (fun l i st r=>st.2.1=(i:Int)∧(if 0≤lastIx 64 l then (i:Int)+lastIx 64 l else st.1)=lastIx 64 s∧r=authS u s) ?_ ?_ ⟨rfl,?_,rfl⟩ bo%
 ·rintro ⟨k,i0,⟨⟩⟩ r self ⟨hi0,hk,rfl⟩
  simp only at hi0 hk;subst hi0
  exact fin k self (by simpa [lastIx] using hk)
 ·rintro x l i ⟨k,i0,⟨⟩⟩ r self hd hi hx ⟨hi0,hk,rfl⟩ ih
  simp only at hi0 hk;subst hi0
  have hr:=lastIx_range 64 l
  unfold ms_l3Authority.l0
  dsimp only
  rw[bif_dec,if_pos bo%,grd_dec,if_pos bo%,grd_dec,if_pos bo%,bt_get hx,bif_dec]
  have val:lastIx 64 (x :: l)=if 0≤lastIx 64 l then lastIx 64 l+1 else if x=64 then 0 else -1:=by simp only[lastIx]
  by_cases h:x=64
  ·rw[if_pos ((ee64 x).2 h)]
   refine ih _ ⟨w_i bo%,?_,rfl⟩
   dsimp only
   by_cases g:0≤lastIx 64 l
   ·rw[if_pos g] at val ⊢
    rw[val,if_pos bo%] at hk;omega
   ·rw[if_neg g,if_pos h] at val
    rw[if_neg g]
    rw[val,if_pos bo%] at hk;omega
  ·rw[if_neg (fun q=>h ((ee64 x).1 q))]
   refine ih _ ⟨w_i bo%,?_,rfl⟩
   dsimp only
   by_cases g:0≤lastIx 64 l
   ·rw[if_pos g] at val ⊢
    rw[val,if_pos bo%] at hk;omega
   ·rw[if_neg g,if_neg h] at val
    rw[if_neg g]
    rw[val,if_neg bo%] at hk;exact hk
 ·have hr:=lastIx_range 64 s
  simp only[]
  split <;> omega
def getR (o:Option TUrl):TUrl×Bool×Unit:=match o with | some u=>(u,true,()) | none=>(urlZ,false,())
theorem getR_some (u:TUrl):getR (some u)=(u,true,()):=by simp[getR]
theorem getR_none:getR none=(urlZ,false,()):=by simp[getR]
theorem tailS_fresh (a b c:Bs) (h:THost) (p:Int) (l:List Bs) (o s:Bs):tailS (a,b,c,h,p,l,o,false,[],false,[],()) s=tailM (a,b,c,h,p,l,o,false,[],false,[],()) s:=by
 unfold tailS tailM
 generalize cut1 35 s=q
 obtain ⟨x,y⟩:=q
 cases x <;> cases y <;> simp[encM]
def u0 (sch:Bs) (p:Int):TUrl:=(sch,[],[],(0,[],0,()),p,[],[],false,[],false,[],())
theorem spec_l3Hosted_ok {n:Nat} (hn:4194304+9≤n) {sch:Bs} {p:Int} {s:Bs} (hs:s.length≤200):cs_l3Hosted n (u0 sch p) s=some (getR (hostedM sch s)):=by
 obtain ⟨m,rfl⟩:=sn hn
 rw[es_l3Hosted];unfold ms_l3Hosted hostedM
 rw[spec_l1At_ok bo% bo% (by simp)]
 simp only[Option.bind_some]
 obtain ⟨e1,e2⟩:=at_from [47,92,63,35] s
 have hl:=at_len [47,92,63,35] s
 have hl2:=from_len [47,92,63,35] s
 simp only[toNat_nat,List.drop_zero,take_all,e1,e2]
 generalize atM [47,92,63,35] s=au at *
 generalize fromM [47,92,63,35] s=rr at *
 rw[grd_dec,if_pos bo%,grd_dec,if_pos bo%,spec_l3Authority_ok bo% bo%]
 simp only[Option.bind_some]
 rw[grd_dec,if_pos bo%,grd_dec,if_pos bo%]
 rw[spec_l1At_ok bo% bo% (by simp)]
 simp only[Option.bind_some]
 obtain ⟨f1,f2⟩:=at_from [63,35] rr
 have gl:=at_len [63,35] rr
 have gl2:=from_len [63,35] rr
 simp only[toNat_nat,List.drop_zero,take_all,f1,f2]
 rw[grd_dec,if_pos bo%,grd_dec,if_pos bo%,spec_PathGet_ok bo% bo%]
 simp only[Option.bind_some]
 rw[grd_dec,if_pos bo%,grd_dec,if_pos bo%]
 rw[spec_l3Tail_ok bo% bo%]
 simp only[Option.bind_some]
 unfold authS
 simp only[]
 rw[show (u0 sch p).1=sch from rfl]
 have alen:=atSign_len au
 generalize atSign au=a at *
 obtain ⟨a1,a2⟩:=a
 simp only at alen ⊢
 generalize (cut1 58 a2)=hp
 cases hh:hostGetM hp.1 with
 | none=>simp[hostR_none,getR_none,urlZ,hostZ]
 | some h =>
  cases hq:portM (portS sch) (hp.2.getD []) with
  | none=>simp[hostR_some,getR_none,urlZ,hostZ]
  | some q =>
   have hq2:¬q = -2:=by
    intro e;subst e
    unfold portM at hq
    split at hq
    ·simp at hq
    ·simp only[Option.bind_eq_some_iff] at hq
     obtain ⟨v,h1,h2⟩:=hq
     have:=digM_range 10 bo% _ 0 v bo% bo% h1
     split at h2
     ·cases h2
     ·split at h2
      ·simp at h2
      ·simp at h2;omega
   simp only[hostR_some,Option.getD_some,hq2,not_false_eq_true,decide_true,Bool.and_true,Bool.not_true,bif_f,getR_some]
   cases a1 with
   | none=>simp only[u0,tailS_fresh]
   | some w =>
    simp only[whoM,u0]
    have:(if (cut1 58 w).2.isSome=true then encM setU ((cut1 58 w).2.getD []) else [])=encM setU ((cut1 58 w).2.getD []):=by
     split
     ·rfl
     ·rename_i h
      have:(cut1 58 w).2=none:=by simpa using h
      rw[this];simp[encM]
    simp only[this,tailS_fresh]
theorem spec_l3Read_ok {n:Nat} (hn:4194304+10≤n) {sch rest:Bs} (hs:rest.length≤200):cs_l3Read n sch rest=some (getR (readM sch rest)):=by
 obtain ⟨m,rfl⟩:=sn hn
 rw[es_l3Read];unfold ms_l3Read readM
 rw[spec_l3Own_ok bo%]
 simp only[Option.bind_some]
 by_cases h:portS sch<0
 ·rw[bif_dec,if_pos h,if_pos h,spec_l1At_ok bo% bo% (by simp)]
  simp only[Option.bind_some]
  obtain ⟨e1,e2⟩:=at_from [63,35] rest
  have hl:=at_len [63,35] rest
  have hl2:=from_len [63,35] rest
  simp only[toNat_nat,List.drop_zero,take_all,e1,e2]
  rw[grd_dec,if_pos bo%,grd_dec,if_pos bo%,sEncode5 bo% bo%]
  simp only[Option.bind_some]
  rw[grd_dec,if_pos bo%,grd_dec,if_pos bo%,spec_l3Tail_ok bo% bo%]
  simp only[Option.bind_some,tailS_fresh,getR_some]
 ·rw[bif_dec,if_neg h,if_neg h]
  have hp0:rest.length≤200∧getR (hostedM sch (rest.dropWhile isSl))=getR (hostedM sch (rest.dropWhile isSl)):=⟨hs,Eq.refl _⟩
  refine loopR_ind (fun (st:Bs×Unit)=>st.1.length) (fun (st:Bs×Unit) (r:TUrl×Bool×Unit)=>st.1.length≤200∧r=getR (hostedM sch (st.1.dropWhile isSl))) ?_ m (rest,()) (getR (hostedM sch (rest.dropWhile isSl))) hp0 (show rest.length<m by omega)
  rintro ⟨t,⟨⟩⟩ r self ⟨ht,rfl⟩ ih
  dsimp only at ht ih ⊢
  have hh:=spec_l3Hosted_ok (n:=m) bo% (sch:=sch) (p:=-1) ht
  unfold u0 at hh
  unfold ms_l3Read.l0
  dsimp only
  rw[hh]
  cases t with
  | nil=>simp
  | cons c l =>
   have hl:(c :: l).length=l.length+1:=by simp
   have e4:List.drop (Int.toNat 1) (c :: l)=l:=rfl
   simp only[take_all,bt_0,e4,Option.bind_some]
   simp (disch:=first | omega | (simp only[hl];omega)) only [bif_dec,grd_dec,if_pos]
   have hsl:=isSl_int c
   have nx:isSl c=true→self (l,())=some (getR (hostedM sch ((c :: l).dropWhile isSl))):=fun h=>by
    have he:(c :: l).dropWhile isSl=l.dropWhile isSl:=by rw[List.dropWhile_cons,if_pos h]
    refine ih (l,()) (by rw[hl];exact Nat.lt_succ_self _) ⟨show l.length≤200 by omega,?_⟩
    rw[he]
   by_cases g1:(c.toNat:Int)=47
   ·rw[if_pos g1]
    have:isSl c=true:=by rw[hsl];simp[g1]
    rw[ih (l,()) (by simp) ⟨by dsimp only;omega,by dsimp only;rw[List.dropWhile_cons,this];rfl⟩]
   ·rw[if_neg g1]
    by_cases g2:(c.toNat:Int)=92
    ·rw[if_pos g2]
     have:isSl c=true:=by rw[hsl];simp[g2]
     exact nx this
    ·rw[if_neg g2]
     have:isSl c=false:=by rw[hsl];simp[g1,g2]
     rw[List.dropWhile_cons,if_neg (by rw[this];simp)]
end Go.VM.T
namespace Go.VM.T
open Go Go.VM
noncomputable def parseTail (n:Nat) (y3:Int×Bool×Unit) (y2:Bs×Bs×Bool×Unit) (t:Bs):Option (TUrl×Bool×Unit) :=
 (ci_upTo n t ([47,92,63,35]:Bs)).bind fun y29=>(ci_upTo n y29.2.1 ([63,35]:Bs)).bind fun y30=>(c_strings_LastIndexByte n y29.1 (64:Int)).bind fun y31=>bif (decide ((0:Int)≤y31.1)) then (grd (decide (0≤y31.1)) (grd (decide (y31.1≤(y29.1.length:Int))) ((c_strings_Cut n ((y29.1.take y31.1.toNat).drop 0) ([58]:Bs)).bind fun y32=>(ci_encode n (4:Int) y32.1).bind fun y33=>(ci_encode n (4:Int) y32.2.1).bind fun y34=>grd (decide (0≤(IntKind.i64.wrap (y31.1+(1:Int))))) (grd (decide ((IntKind.i64.wrap (y31.1+(1:Int)))≤(y29.1.length:Int))) ((c_strings_Cut n ((y29.1.take y29.1.length).drop (IntKind.i64.wrap (y31.1+(1:Int))).toNat) ([58]:Bs)).bind fun y35=>(ci_HostGet n y35.1).bind fun y36=>(ci_portOf n y35.2.1 y3.1).bind fun y37=>(ci_PathGet n y30.1).bind fun y38=>(ci_Url_tail n (y2.1,y33.1,y34.1,y36.1,y37.1,7,([]:Bs),false,([]:Bs),false,([]:Bs),()) y30.2.1).bind fun y39=>grd (decide (y39.1.2.2.2.2.2.1=7)) (bif (!y36.2.1) then (some ((([]:Bs),([]:Bs),([]:Bs),((0:Int),([]:Bs),(0:Int),()),(0:Int),([]:List Bs),([]:Bs),false,([]:Bs),false,([]:Bs),()),false,())) else (bif (!y37.2.1) then (some ((([]:Bs),([]:Bs),([]:Bs),((0:Int),([]:Bs),(0:Int),()),(0:Int),([]:List Bs),([]:Bs),false,([]:Bs),false,([]:Bs),()),false,())) else (bif (decide ((12:Int)<(y38.1.length:Int))) then (some ((([]:Bs),([]:Bs),([]:Bs),((0:Int),([]:Bs),(0:Int),()),(0:Int),([]:List Bs),([]:Bs),false,([]:Bs),false,([]:Bs),()),false,())) else ((ci_Url_text n (y39.1.1,y39.1.2.1,y39.1.2.2.1,y39.1.2.2.2.1,y39.1.2.2.2.2.1,y38.1,y39.1.2.2.2.2.2.2.1,y39.1.2.2.2.2.2.2.2.1,y39.1.2.2.2.2.2.2.2.2.1,y39.1.2.2.2.2.2.2.2.2.2.1,y39.1.2.2.2.2.2.2.2.2.2.2.1,())).bind fun y40=>bif (decide ((600:Int)<(y40.1.length:Int))) then (some ((([]:Bs),([]:Bs),([]:Bs),((0:Int),([]:Bs),(0:Int),()),(0:Int),([]:List Bs),([]:Bs),false,([]:Bs),false,([]:Bs),()),false,())) else (some ((y39.1.1,y39.1.2.1,y39.1.2.2.1,y39.1.2.2.2.1,y39.1.2.2.2.2.1,y38.1,y39.1.2.2.2.2.2.2.1,y39.1.2.2.2.2.2.2.2.1,y39.1.2.2.2.2.2.2.2.2.1,y39.1.2.2.2.2.2.2.2.2.2.1,y39.1.2.2.2.2.2.2.2.2.2.2.1,()),true,()))))))))))) else ((c_strings_Cut n y29.1 ([58]:Bs)).bind fun y41=>(ci_HostGet n y41.1).bind fun y42=>(ci_portOf n y41.2.1 y3.1).bind fun y43=>(ci_PathGet n y30.1).bind fun y44=>(ci_Url_tail n (y2.1,([]:Bs),([]:Bs),y42.1,y43.1,7,([]:Bs),false,([]:Bs),false,([]:Bs),()) y30.2.1).bind fun y45=>grd (decide (y45.1.2.2.2.2.2.1=7)) (bif (!y42.2.1) then (some ((([]:Bs),([]:Bs),([]:Bs),((0:Int),([]:Bs),(0:Int),()),(0:Int),([]:List Bs),([]:Bs),false,([]:Bs),false,([]:Bs),()),false,())) else (bif (!y43.2.1) then (some ((([]:Bs),([]:Bs),([]:Bs),((0:Int),([]:Bs),(0:Int),()),(0:Int),([]:List Bs),([]:Bs),false,([]:Bs),false,([]:Bs),()),false,())) else (bif (decide ((12:Int)<(y44.1.length:Int))) then (some ((([]:Bs),([]:Bs),([]:Bs),((0:Int),([]:Bs),(0:Int),()),(0:Int),([]:List Bs),([]:Bs),false,([]:Bs),false,([]:Bs),()),false,())) else ((ci_Url_text n (y45.1.1,y45.1.2.1,y45.1.2.2.1,y45.1.2.2.2.1,y45.1.2.2.2.2.1,y44.1,y45.1.2.2.2.2.2.2.1,y45.1.2.2.2.2.2.2.2.1,y45.1.2.2.2.2.2.2.2.2.1,y45.1.2.2.2.2.2.2.2.2.2.1,y45.1.2.2.2.2.2.2.2.2.2.2.1,())).bind fun y46=>bif (decide ((600:Int)<(y46.1.length:Int))) then (some ((([]:Bs),([]:Bs),([]:Bs),((0:Int),([]:Bs),(0:Int),()),(0:Int),([]:List Bs),([]:Bs),false,([]:Bs),false,([]:Bs),()),false,())) else (some ((y45.1.1,y45.1.2.1,y45.1.2.2.1,y45.1.2.2.2.1,y45.1.2.2.2.2.1,y44.1,y45.1.2.2.2.2.2.2.1,y45.1.2.2.2.2.2.2.2.1,y45.1.2.2.2.2.2.2.2.2.1,y45.1.2.2.2.2.2.2.2.2.2.1,y45.1.2.2.2.2.2.2.2.2.2.2.1,()),true,())))))))
theorem parse_l0 (n:Nat) (y3:Int×Bool×Unit) (y2:Bs×Bs×Bool×Unit) (f:(Bs×Unit)→Option (TUrl×Bool×Unit)) (t:Bs):mi_parse.l0 n y3 y2 f (t,())=(bif (!(t==([]:Bs))) then (grd (decide (0≤(0:Int))) (grd (decide ((0:Int)<(t.length:Int))) ((ci_isSlash n (bt t (0:Int))).bind fun y10=>bif y10.1 then (grd (decide (0≤(1:Int))) (grd (decide ((1:Int)≤(t.length:Int))) (f (((t.take t.length).drop (1:Int).toNat),())))) else parseTail n y3 y2 t))) else parseTail n y3 y2 t):=rfl
theorem LastIx_ok {n:Nat} (hn:4194304+2≤n) {s:Bs} (hs:s.length≤4000000) (c:UInt8):c_strings_LastIndexByte n s (c.toNat:Int)=some (lastIx c s,()):=by
 obtain ⟨m,rfl⟩:=sn hn
 rw[eq_strings_LastIndexByte];unfold m_strings_LastIndexByte
 obtain ⟨m,rfl⟩:=sn (n:=m) (k:=1) bo%
 rw[eq_bytealg_LastIndexByteString];unfold m_bytealg_LastIndexByteString
 have key:loopR (m_bytealg_LastIndexByteString.l0 m s (c.toNat:Int)) m (IntKind.i64.wrap ((s.length:Int)-1),())=some (lastIx c s,()):=by
  rw[w64 bo% bo%]
  have h0:(∃k:Nat,(s.length:Int)-1=(k:Int)-1∧k≤s.length∧(lastIx c s,())=(lastIx c (s.take k),())):=⟨s.length,rfl,Nat.le_refl _,by rw[List.take_length]⟩
  refine loopR_ind (fun (st:Int×Unit)=>(st.1+1).toNat) (fun (st:Int×Unit) (r:Int×Unit)=>∃k:Nat,st.1=(k:Int)-1∧k≤s.length∧r=(lastIx c (s.take k),())) ?_ m _ _ h0 (by dsimp only;omega)
  rintro ⟨k0,⟨⟩⟩ r self ⟨k,hk,hl,rfl⟩ ih
  dsimp only at hk;subst hk
  unfold m_bytealg_LastIndexByteString.l0
  dsimp only
  cases k with
  | zero=>rw[bif_dec,if_neg bo%];simp[lastIx]
  | succ j =>
   have hj:j<s.length:=by omega
   have hg:s[j]? = some s[j]:=List.getElem?_eq_getElem hj
   generalize s[j]=x at hg
   rw[show ((j+1:Nat):Int)-1=(j:Int) by omega,bif_dec,if_pos bo%,grd_dec,if_pos bo%,grd_dec,if_pos bo%,bt_get hg,bif_dec]
   have e:((x.toNat:Int)=(c.toNat:Int))↔x=c:=by rw[←UInt8.toNat_inj];omega
   have hs':lastIx c (s.take (j+1))=if x=c then (j:Int) else lastIx c (s.take j):=by
    rw[take_succ' hg,lastIx_snoc,List.length_take,Nat.min_eq_left bo%]
   rw[hs']
   by_cases h:x=c
   ·rw[if_pos (e.2 h),if_pos h]
   ·rw[if_neg (fun q=>h (e.1 q)),if_neg h,w64 bo% bo%]
    rw[hs',if_neg h] at ih
    exact ih _ (by dsimp only;omega) ⟨j,rfl,by omega,rfl⟩
 rw[key];rfl
theorem pathM_app (a b:List Bs):pathM (a++b)=pathM a++pathM b:=by
 induction a with
 | nil=>rfl
 | cons x l ih=>simp[pathM,ih]
theorem pathM_drop (l:List Bs):(pathM l.dropLast).length≤(pathM l).length:=by
 rcases List.eq_nil_or_concat l with rfl | ⟨u,c,rfl⟩
 ·simp
 ·rw[List.concat_eq_append,List.dropLast_concat,pathM_app];simp
theorem walkM_sz (out parts:List Bs) (h:∀p∈parts,p.length≤200):(pathM (walkM out parts)).length≤(pathM out).length+parts.length*601:=by
 induction parts generalizing out with
 | nil=>simp[walkM]
 | cons p l ih =>
  simp only[walkM]
  refine Nat.le_trans (ih _ (fun q hq=>h q (List.mem_cons_of_mem _ hq))) ?_
  have h1:(pathM (if dotsM p=2 then out.dropLast else out)).length≤(pathM out).length:=by
   split
   ·exact pathM_drop out
   ·exact Nat.le_refl _
  have hp:=h p (List.mem_cons_self ..)
  have he:=encM_len setP p
  generalize (if dotsM p=2 then out.dropLast else out)=o at *
  simp only[List.length_cons]
  split
  ·rw[pathM_app];simp[pathM];omega
  ·split
   ·rw[pathM_app];simp[pathM];omega
   ·omega
theorem pathGet_sz (t:Bs):(pathM (pathGetM t)).length≤201*601:=by
 unfold pathGetM
 split
 ·simp[pathM]
 ·rename_i h
  have key:∀u:Bs,u.length≤200→(pathM (walkM [] (piecesM u))).length≤201*601:=fun u hu=>by
   obtain ⟨a,b⟩:=pieces_ok hu
   have:=walkM_sz [] (piecesM u) b
   simp only[pathM,List.length_nil] at this
   have h2:(piecesM u).length*601≤201*601:=Nat.mul_le_mul_right _ a
   omega
  cases t with
  | nil=>exact key [] (by simp)
  | cons c l =>
   simp only[List.length_cons] at h
   simp only[]
   split
   ·exact key l bo%
   ·exact key (c :: l) (by simp;omega)
theorem hostGet_sz {s:Bs} {h:THost} (e:hostGetM s=some h):h.2.1.length≤600:=by
 unfold hostGetM at e
 have hd:=dec_small s
 generalize (if s.length≤600 then decM s else [])=d at *
 simp only[] at e
 have hl:=lowM_len d
 generalize lowM d=t at *
 by_cases g1:200<s.length∨t=[]
 ·rw[if_pos g1] at e;cases e
 ·rw[if_neg g1] at e
  by_cases g2:endsM t=true
  ·rw[if_pos g2] at e
   cases hf:fourGetM t with
   | none=>rw[hf] at e;cases e
   | some v=>rw[hf] at e;cases e;simp
  ·rw[if_neg g2] at e
   by_cases g3:isNameM t=true
   ·rw[if_pos g3] at e;cases e;simp only[];omega
   ·rw[if_neg g3] at e;cases e
theorem portM_range {own:Int} {s:Bs} {p:Int} (e:portM own s=some p):-1≤p∧p≤65535:=by
 unfold portM at e
 split at e
 ·cases e;omega
 ·rw[Option.bind_eq_some_iff] at e
  obtain ⟨v,h1,h2⟩:=e
  have:=digM_range 10 bo% _ 0 v bo% bo% h1
  split at h2
  ·cases h2
  ·split at h2
   ·cases h2;omega
   ·cases h2;omega
theorem tail_BU (a b c:Bs) (h:THost) (p:Int) (l:List Bs) (o s:Bs) (ha:a.length≤2000) (hb:b.length≤6000) (hc:c.length≤6000) (hh:h.2.1.length≤600) (hp:p≤65535) (hl:(pathM l).length≤201*601) (ho:o.length≤6000) (hs:s.length≤2000) :
  BU (tailM (a,b,c,h,p,l,o,false,[],false,[],()) s):=by
 obtain ⟨q1,q2⟩:=cut1_len 35 s
 have e1:=encM_len setQ ((cut1 35 s).1.drop 1)
 have e2:=encM_len setF ((cut1 35 s).2.getD [])
 simp only[List.length_drop] at e1
 refine ⟨?_,by simp only[tailM];omega⟩
 unfold szU tailM
 simp only[]
 omega
theorem hosted_BU {sch s:Bs} {u:TUrl} (hs:s.length≤2000) (ha:sch.length≤2000) (h:hostedM sch s=some u):BU u:=by
 unfold hostedM at h
 simp only[] at h
 have hl:=at_len [47,92,63,35] s
 have hl2:=from_len [47,92,63,35] s
 have gl2:=from_len [63,35] (fromM [47,92,63,35] s)
 have al:=atSign_len (atM [47,92,63,35] s)
 generalize atSign (atM [47,92,63,35] s)=a at *
 obtain ⟨a1,a2⟩:=a
 simp only at h al
 split at h
 ·rename_i hh p e1 e2
  cases h
  refine tail_BU _ _ _ _ _ _ _ _ ha ?_ ?_ (hostGet_sz e1) (portM_range e2).2 (pathGet_sz _) (by simp) bo%
  ·cases a1 with
   | none=>simp
   | some w =>
    have:=al.2 w rfl
    have:=cut1_len 58 w
    have:=encM_len setU (cut1 58 w).1
    simp only[];omega
  ·cases a1 with
   | none=>simp
   | some w =>
    have:=al.2 w rfl
    have:=cut1_len 58 w
    have:=encM_len setU ((cut1 58 w).2.getD [])
    simp only[];omega
 ·cases h
theorem schM_len {t:Bs} {p:Bs×Bs} (h:schM t=some p):p.1.length≤t.length∧p.2.length≤t.length:=by
 unfold schM at h
 have hl:=cut1_len 58 t
 cases hc:cut1 58 t with
 | mk a o =>
  rw[hc] at h hl
  cases a with
  | nil=>simp at h
  | cons c s =>
   cases o with
   | none=>simp at h
   | some r =>
    simp only[] at h
    split at h
    ·cases h
     simp only[lowM_len]
     simpa using hl
    ·cases h
theorem strip_len (t:Bs):(stripM t).length≤t.length:=by
 rw[stripM_eq]
 refine Nat.le_trans (List.length_filter_le _ _) (Nat.le_trans (rtr_len _) ?_)
 exact (List.dropWhile_sublist _).length_le
theorem drop_len (p:UInt8→Bool) (t:Bs):(t.dropWhile p).length≤t.length:=(List.dropWhile_sublist _).length_le
def opqM (sch rest:Bs):TUrl:=tailM (sch,[],[],(0,[],0,()),-1,[],encM setO (atM [63,35] rest),false,[],false,[],()) (fromM [63,35] rest)
def parseR (t:Bs):TUrl×Bool×Unit:=match schM (stripM t) with
 | none=>(urlZ,false,())
 | some p=>if portS p.1<0 then (opqM p.1 p.2,decide ((putM (opqM p.1 p.2)).length≤600),())
  else match hostedM p.1 (p.2.dropWhile isSl) with
   | some u=>if fitsM u=true then (u,true,()) else (urlZ,false,())
   | none=>(urlZ,false,())
def tk (l:List Bs) (u:TUrlT):TUrl:=(u.1,u.2.1,u.2.2.1,u.2.2.2.1,u.2.2.2.2.1,l,u.2.2.2.2.2.2.1,u.2.2.2.2.2.2.2.1,u.2.2.2.2.2.2.2.2.1,u.2.2.2.2.2.2.2.2.2.1,u.2.2.2.2.2.2.2.2.2.2.1,())
theorem parseTail_ok {m:Nat} (hm:4194304+26≤m) {sch rest t:Bs} (hs:t.length≤2000) (ha:sch.length≤2000):parseTail m (portS sch,true,()) (sch,rest,true,()) t=some (match hostedM sch t with
   | some u=>if fitsM u=true then (u,true,()) else (urlZ,false,())
   | none=>(urlZ,false,())):=by
 unfold parseTail
 rw[impl_upTo_ok bo% bo% (by simp) (by simp) (by decide)]
 have hB:=fun u=>hosted_BU (u:=u) hs ha
 unfold hostedM at *
 dsimp only at hB ⊢
 have hl:=at_len [47,92,63,35] t
 have hl2:=from_len [47,92,63,35] t
 generalize atM [47,92,63,35] t=au at *
 generalize fromM [47,92,63,35] t=rr at *
 simp only[Option.bind_some]
 rw[impl_upTo_ok bo% bo% (by simp) (by simp) (by decide)]
 have gl:=at_len [63,35] rr
 have gl2:=from_len [63,35] rr
 generalize atM [63,35] rr=pa at *
 generalize fromM [63,35] rr=tl at *
 simp only[Option.bind_some]
 rw[show (64:Int)=((64:UInt8).toNat:Int) from rfl,LastIx_ok bo% bo%]
 simp only[Option.bind_some,take_all]
 have fin:∀(us pw a2:Bs),a2.length≤2000→(∀u,(match hostGetM (cut1 58 a2).1,portM (portS sch) ((cut1 58 a2).2.getD []) with
    | some h,some p=>some (tailM (sch,us,pw,h,p,pathGetM pa,[],false,[],false,[],()) tl)
    | _,_=>none)=some u→BU u) →
   ((c_strings_Cut m a2 ([58]:Bs)).bind fun y23=>(ci_HostGet m y23.1).bind fun y24=>(ci_portOf m y23.2.1 (portS sch)).bind fun y25=>(ci_PathGet m pa).bind fun y26=>(ci_Url_tail m (sch,us,pw,y24.1,y25.1,7,([]:Bs),false,([]:Bs),false,([]:Bs),()) tl).bind fun y27=>grd (decide (y27.1.2.2.2.2.2.1=7)) (bif (!y24.2.1) then (some (urlZ,false,())) else (bif (!y25.2.1) then (some (urlZ,false,())) else (bif (decide ((12:Int)<(y26.1.length:Int))) then (some (urlZ,false,())) else ((ci_Url_text m (tk y26.1 y27.1)).bind fun y28=>bif (decide ((600:Int)<(y28.1.length:Int))) then (some (urlZ,false,())) else (some (tk y26.1 y27.1,true,()))))))) =
   some (match (match hostGetM (cut1 58 a2).1,portM (portS sch) ((cut1 58 a2).2.getD []) with
    | some h,some p=>some (tailM (sch,us,pw,h,p,pathGetM pa,[],false,[],false,[],()) tl)
    | _,_=>none) with
   | some u=>if fitsM u=true then (u,true,()) else (urlZ,false,())
   | none=>(urlZ,false,())):=fun us pw a2 h2 hBU=>by
  have hc:=cut1_len 58 a2
  rw[strings_Cut_ok bo% bo%]
  simp only[Option.bind_some]
  rw[impl_HostGet_ok bo% bo%,impl_portOf_ok bo% bo%,impl_PathGet_ok bo% bo%]
  simp only[Option.bind_some]
  rw[impl_Url_tail_ok bo% _ bo%]
  simp only[Option.bind_some]
  rw[grd_dec,if_pos (by rfl)]
  cases hh:hostGetM (cut1 58 a2).1 with
  | none=>simp[hostR_none]
  | some h =>
   cases hq:portM (portS sch) ((cut1 58 a2).2.getD []) with
   | none=>simp[hostR_some,numR]
   | some q =>
    rw[hh,hq] at hBU
    have hb:=hBU _ rfl
    have e:tk (pathGetM pa) (tailT (sch,us,pw,h,q,7,[],false,[],false,[],()) tl)=tailM (sch,us,pw,h,q,pathGetM pa,[],false,[],false,[],()) tl:=rfl
    simp only[hostR_some,numR_some,Bool.not_true,bif_f,e]
    rw[impl_Url_text_ok bo% hb]
    simp only[Option.bind_some]
    unfold fitsM
    have ep:(tailM (sch,us,pw,h,q,pathGetM pa,[],false,[],false,[],()) tl).2.2.2.2.2.1=pathGetM pa:=rfl
    rw[ep]
    generalize tailM (sch,us,pw,h,q,pathGetM pa,[],false,[],false,[],()) tl=U
    rw[bif_dec,bif_dec]
    by_cases g1:(pathGetM pa).length≤12
    ·rw[if_neg bo%]
     by_cases g2:(putM U).length≤600
     ·rw[if_neg bo%];simp[g1,g2]
     ·rw[if_pos bo%];simp[g2]
    ·rw[if_pos bo%];simp[g1]
 have al:=atSign_len au
 have hr:=lastIx_range 64 au
 unfold atSign at *
 generalize lastIx 64 au=k at *
 by_cases g:0≤k
 ·simp only[if_pos g] at al hB ⊢
  obtain ⟨j,rfl⟩:∃j:Nat,k=(j:Int):=⟨k.toNat,by omega⟩
  have hw:IntKind.i64.wrap ((j:Int)+1)=((j+1:Nat):Int):=w_i bo%
  simp only[toNat_nat,List.drop_zero,hw] at al hB ⊢
  have hc:=cut1_len 58 (au.take j)
  have hw2:=al.2 (au.take j) rfl
  rw[bif_dec,if_pos bo%,grd_dec,if_pos bo%,grd_dec,if_pos bo%,strings_Cut_ok bo% bo%]
  simp only[Option.bind_some]
  rw[encode4 bo% bo%,encode4 bo% bo%]
  simp only[Option.bind_some]
  rw[grd_dec,if_pos bo%,grd_dec,if_pos bo%]
  exact fin _ _ _ bo% hB
 ·simp only[if_neg g] at al hB ⊢
  rw[bif_dec,if_neg g]
  exact fin [] [] au bo% hB
end Go.VM.T
namespace Go.VM.T
open Go Go.VM
theorem impl_parse_ok {n:Nat} (hn:4194304+27≤n) {t:Bs} (ht:t.length≤2000):ci_parse n t=some (parseR t):=by
 obtain ⟨m,rfl⟩:=sn hn
 rw[ei_parse];unfold mi_parse parseR
 have h1:=strip_len t
 rw[impl_strip_ok bo% bo%]
 simp only[Option.bind_some]
 rw[impl_schemeOf_ok bo% bo%]
 simp only[Option.bind_some]
 cases hsc:schM (stripM t) with
 | none=>simp[schR_none,urlZ,hostZ]
 | some p =>
  obtain ⟨sch,rest⟩:=p
  have hl:=schM_len hsc
  simp only[] at hl
  simp only[schR_some,Bool.not_true,bif_f]
  rw[impl_special_ok bo%]
  simp only[Option.bind_some]
  by_cases g:portS sch<0
  ·rw[if_pos g,decide_eq_false bo%]
   simp only[Bool.not_false,bif_t]
   rw[impl_upTo_ok bo% bo% (by simp) (by simp) (by decide)]
   have gl:=at_len [63,35] rest
   have gl2:=from_len [63,35] rest
   simp only[Option.bind_some]
   rw[encode5 bo% bo%]
   simp only[Option.bind_some]
   rw[impl_Url_tail_ok bo% _ bo%]
   simp only[Option.bind_some]
   rw[grd_dec,if_pos (by rfl)]
   have he:=encM_len setO (atM [63,35] rest)
   have e:tk [] (tailT (sch,[],[],(0,[],0,()),-1,7,encM setO (atM [63,35] rest),false,[],false,[],()) (fromM [63,35] rest))=opqM sch rest:=rfl
   have hb:BU (opqM sch rest):=tail_BU _ _ _ _ _ _ _ _ bo% (by simp) (by simp) (by simp) bo% (by simp[pathM]) bo% bo%
   have key:((ci_Url_text m (tk [] (tailT (sch,[],[],(0,[],0,()),-1,7,encM setO (atM [63,35] rest),false,[],false,[],()) (fromM [63,35] rest)))).bind fun y7=>some (tk [] (tailT (sch,[],[],(0,[],0,()),-1,7,encM setO (atM [63,35] rest),false,[],false,[],()) (fromM [63,35] rest)),(decide ((y7.1.length:Int)≤(600:Int))),()))=some (opqM sch rest,decide ((putM (opqM sch rest)).length≤600),()):=by
    rw[e,impl_Url_text_ok bo% hb]
    simp only[Option.bind_some]
    congr 3
    rw[decide_eq_decide];omega
   exact key
  ·rw[if_neg g,decide_eq_true bo%]
   simp only[Bool.not_true,bif_f]
   have hp0:rest.length≤2000∧(match hostedM sch (rest.dropWhile isSl) with | some u=>if fitsM u=true then (u,true,()) else (urlZ,false,()) | none=>(urlZ,false,()))=(match hostedM sch (rest.dropWhile isSl) with | some u=>if fitsM u=true then (u,true,()) else (urlZ,false,()) | none=>(urlZ,false,())):=⟨by omega,Eq.refl _⟩
   refine loopR_ind (fun (st:Bs×Unit)=>st.1.length) (fun (st:Bs×Unit) (r:TUrl×Bool×Unit)=>st.1.length≤2000∧r=(match hostedM sch (st.1.dropWhile isSl) with | some u=>if fitsM u=true then (u,true,()) else (urlZ,false,()) | none=>(urlZ,false,()))) ?_ m (rest,()) _ hp0 (show rest.length<m by omega)
   rintro ⟨t,⟨⟩⟩ r self ⟨htl,hr⟩ ih
   dsimp only at htl hr ih
   have hpt:=parseTail_ok (m:=m) bo% (sch:=sch) (rest:=rest) htl bo%
   rw[parse_l0,hpt]
   cases t with
   | nil =>
    have e:(([]:Bs)==([]:Bs))=true:=rfl
    simp only[e,Bool.not_true,bif_f]
    rw[hr];rfl
   | cons c l =>
    have e:((c :: l)==([]:Bs))=false:=rfl
    have hl:(c :: l).length=l.length+1:=by simp
    have e4:List.drop (Int.toNat 1) (c :: l)=l:=rfl
    simp only[e,Bool.not_false,bif_t,take_all,bt_0,e4]
    rw[grd_dec,if_pos bo%,grd_dec,if_pos bo%,impl_isSlash_ok bo%]
    simp only[Option.bind_some]
    cases hs:isSl c with
    | true =>
     simp only[bif_t]
     rw[grd_dec,if_pos bo%,grd_dec,if_pos bo%]
     refine ih (l,()) (by rw[hl];exact Nat.lt_succ_self _) ⟨show l.length≤2000 by omega,?_⟩
     dsimp only
     rw[hr,List.dropWhile_cons,if_pos hs]
    | false =>
     simp only[bif_f]
     rw[hr,List.dropWhile_cons,if_neg (by rw[hs];simp)]
     all_goals rfl
theorem impl_UrlGet_ok {n:Nat} (hn:4194304+28≤n) {t:Bs}:ci_UrlGet n t=some (if 200<t.length then (urlZ,false,()) else parseR t):=by
 obtain ⟨m,rfl⟩:=sn hn
 rw[ei_UrlGet];unfold mi_UrlGet
 by_cases h:200<t.length
 ·rw[bif_dec,if_pos bo%,if_pos h];rfl
 ·rw[bif_dec,if_neg bo%,if_neg h,impl_parse_ok bo% bo%];rfl
theorem parseR_get (t:Bs):(∀u,getM t=some u→(if 200<t.length then (urlZ,false,()) else parseR t)=(u,true,()))∧(getM t=none→(if 200<t.length then (urlZ,false,()) else parseR t).2.1=false):=by
 unfold getM parseR readM
 by_cases h:200<t.length
 ·simp only[if_pos h]
  exact ⟨fun u hu=>(by cases hu),fun _=>trivial⟩
 ·simp only[if_neg h]
  cases schM (stripM t) with
  | none=>exact ⟨fun u hu=>(by cases hu),fun _=>rfl⟩
  | some p =>
   simp only[]
   by_cases g:portS p.1<0
   ·simp only[if_pos g]
    rw[show tailM (p.1,[],[],(0,[],0,()),-1,[],encM setO (atM [63,35] p.2),false,[],false,[],()) (fromM [63,35] p.2)=opqM p.1 p.2 from rfl]
    have ef:fitsM (opqM p.1 p.2)=decide ((putM (opqM p.1 p.2)).length≤600):=by
     unfold fitsM
     have:(opqM p.1 p.2).2.2.2.2.2.1=[]:=rfl
     rw[this];simp
    rw[←ef]
    cases fitsM (opqM p.1 p.2) with
    | true=>exact ⟨fun u hu=>(by cases hu;rfl),fun hu=>(by cases hu)⟩
    | false=>exact ⟨fun u hu=>(by cases hu),fun _=>rfl⟩
   ·simp only[if_neg g]
    cases hostedM p.1 (p.2.dropWhile isSl) with
    | none=>exact ⟨fun u hu=>(by cases hu),fun _=>rfl⟩
    | some u =>
     simp only[]
     cases fitsM u with
     | true=>exact ⟨fun v hu=>(by cases hu;rfl),fun hu=>(by cases hu)⟩
     | false=>exact ⟨fun v hu=>(by cases hu),fun _=>rfl⟩
theorem spec_l3Fits_ok {n:Nat} (hn:4194304+25≤n) {u:TUrl} (hu:BU u):cs_l3Fits n u=some (fitsM u,()):=by
 obtain ⟨m,rfl⟩:=sn hn
 rw[es_l3Fits];unfold ms_l3Fits fitsM
 rw[spec_l3Put_ok bo% hu]
 simp only[Option.bind_some]
 rw[bif_dec]
 by_cases g:u.2.2.2.2.2.1.length≤12
 ·rw[if_pos bo%,decide_eq_true g,Bool.true_and]
  congr 2
  rw[decide_eq_decide];omega
 ·rw[if_neg bo%,decide_eq_false g];rfl
theorem read_BU {sch rest:Bs} {u:TUrl} (hs:rest.length≤2000) (ha:sch.length≤2000) (h:readM sch rest=some u):BU u:=by
 unfold readM at h
 split at h
 ·cases h
  have gl:=at_len [63,35] rest
  have gl2:=from_len [63,35] rest
  have he:=encM_len setO (atM [63,35] rest)
  exact tail_BU _ _ _ _ _ _ _ _ bo% (by simp) (by simp) (by simp) bo% (by simp[pathM]) bo% bo%
 ·exact hosted_BU (by have:=drop_len isSl rest;omega) ha h
theorem spec_UrlGet_ok {n:Nat} (hn:4194304+27≤n) {t:Bs}:cs_UrlGet n t=some (getR (getM t)):=by
 obtain ⟨m,rfl⟩:=sn hn
 rw[es_UrlGet];unfold ms_UrlGet getM
 by_cases h:200<t.length
 ·rw[bif_dec,if_pos bo%,if_pos h,getR_none];rfl
 rw[bif_dec,if_neg bo%,if_neg h]
 have h1:=strip_len t
 rw[spec_l3Trim_ok bo% bo%]
 simp only[Option.bind_some]
 rw[spec_l3Scheme_ok bo% bo%]
 simp only[Option.bind_some]
 cases hsc:schM (stripM t) with
 | none=>simp[schR_none,getR_none,urlZ,hostZ]
 | some p =>
  have hl:=schM_len hsc
  simp only[schR_some,Bool.not_true,bif_f]
  rw[spec_l3Read_ok bo% bo%]
  simp only[Option.bind_some]
  cases hr:readM p.1 p.2 with
  | none=>simp[getR_none,urlZ,hostZ]
  | some u =>
   have hb:=read_BU bo% bo% hr
   simp only[getR_some,Bool.not_true,bif_f]
   rw[spec_l3Fits_ok bo% hb]
   simp only[Option.bind_some]
   cases fitsM u <;> simp[getR_some,getR_none,urlZ,hostZ]
theorem lists_eq_in {m:Nat} {F:((Int×Unit)→Option (Bool×Unit))→(Int×Unit)→Option (Bool×Unit)} (a b:List Bs) (hl:a.length=b.length) (hm:a.length<m) (hb:a.length≤4000000)
  (hF:∀f st,F f st=bif (decide (st.1<(a.length:Int))) then (grd (decide (0≤st.1)) (grd (decide (st.1<(a.length:Int))) (grd (decide (0≤st.1)) (grd (decide (st.1<(b.length:Int))) (bif (!((a.getD st.1.toNat ([]:Bs))==(b.getD st.1.toNat ([]:Bs)))) then (some (false,())) else (f ((IntKind.i64.wrap (st.1+(1:Int))),()))))))) else (some (true,()))) :
  loopR F m ((0:Int),())=some (decide (a=b),()):=by
 refine loopS a (fun l i st r=>st.1=(i:Int)∧r=(decide (l=b.drop i),())) ?_ ?_ ⟨rfl,by simp⟩ hm
 ·rintro ⟨i0,⟨⟩⟩ r self ⟨hi0,rfl⟩
  dsimp only at hi0;subst hi0
  rw[hF]
  dsimp only
  rw[bif_dec,if_neg bo%,hl,List.drop_length];rfl
 ·rintro x l i ⟨i0,⟨⟩⟩ r self hd hi hx ⟨hi0,rfl⟩ ih
  dsimp only at hi0;subst hi0
  have hib:i<b.length:=by omega
  have hbd:b.drop i=b[i] :: b.drop (i+1):=List.drop_eq_getElem_cons hib
  have hg:b[i]? = some b[i]:=List.getElem?_eq_getElem hib
  generalize b[i]=y at hbd hg
  rw[hF]
  dsimp only
  rw[bif_dec,if_pos bo%,grd_dec,if_pos bo%,grd_dec,if_pos bo%,grd_dec,if_pos bo%,grd_dec,if_pos bo%,toNat_nat,getD_get _ hx,getD_get _ hg,beq_dec x y,bif_ndec]
  by_cases h:x=y
  ·rw[if_pos h]
   refine ih _ ⟨w_i bo%,?_⟩
   rw[hbd,h]
   simp
  ·rw[if_neg h,hbd]
   simp[h]
theorem beq_d {α:Type} [BEq α] [LawfulBEq α] [DecidableEq α] (a b:α):(a==b)=decide (a=b):=beq_dec a b
theorem spec_l3Equal_ok {n:Nat} (hn:4194304+1≤n) {u v:TUrl} (hu:u.2.2.2.2.2.1.length≤4000000):cs_l3Equal n u v=some (eqU u v,()):=by
 obtain ⟨m,rfl⟩:=sn hn
 rw[es_l3Equal];unfold ms_l3Equal eqU
 have lp:u.2.2.2.2.2.1.length=v.2.2.2.2.2.1.length→loopR (ms_l3Equal.l0 m u v) m ((0:Int),())=some (decide (u.2.2.2.2.2.1=v.2.2.2.2.2.1),()):=fun h =>
  lists_eq_in _ _ h bo% hu (fun f st=>rfl)
 have hc:(decide (u.2.2.2.1.1=v.2.2.2.1.1)&&(decide (u.2.2.2.1.2.1=v.2.2.2.1.2.1)&&decide (u.2.2.2.1.2.2.1=v.2.2.2.1.2.2.1)))=decide (u.2.2.2.1.1=v.2.2.2.1.1∧u.2.2.2.1.2.1=v.2.2.2.1.2.1∧u.2.2.2.1.2.2.1=v.2.2.2.1.2.2.1):=by
  rw[Bool.eq_iff_iff];simp
 simp only[beq_d,Bool.and_true,hc,bif_ndec]
 by_cases hl:u.2.2.2.2.2.1.length=v.2.2.2.2.2.1.length
 ·rw[lp hl,if_pos bo%]
  by_cases h1:u.1=v.1
  case neg=>rw[if_neg h1];simp[h1]
  rw[if_pos h1]
  by_cases h2:u.2.1=v.2.1
  case neg=>rw[if_neg h2];simp[h2]
  rw[if_pos h2]
  by_cases h3:u.2.2.1=v.2.2.1
  case neg=>rw[if_neg h3];simp[h3]
  rw[if_pos h3]
  by_cases hh:(u.2.2.2.1.1=v.2.2.2.1.1∧u.2.2.2.1.2.1=v.2.2.2.1.2.1∧u.2.2.2.1.2.2.1=v.2.2.2.1.2.2.1)
  case neg=>rw[if_neg hh];simp;intros;simp_all
  rw[if_pos hh]
  by_cases h5:u.2.2.2.2.1=v.2.2.2.2.1
  case neg=>rw[if_neg h5];simp[h5]
  rw[if_pos h5]
  by_cases h7:u.2.2.2.2.2.2.1=v.2.2.2.2.2.2.1
  case neg=>rw[if_neg h7];simp[h7]
  rw[if_pos h7]
  by_cases h8:u.2.2.2.2.2.2.2.1=v.2.2.2.2.2.2.2.1
  case neg=>rw[if_neg h8];simp[h8]
  rw[if_pos h8]
  by_cases h9:u.2.2.2.2.2.2.2.2.1=v.2.2.2.2.2.2.2.2.1
  case neg=>rw[if_neg h9];simp[h9]
  rw[if_pos h9]
  by_cases h10:u.2.2.2.2.2.2.2.2.2.1=v.2.2.2.2.2.2.2.2.2.1
  case neg=>rw[if_neg h10];simp[h10]
  rw[if_pos h10]
  by_cases h11:u.2.2.2.2.2.2.2.2.2.2.1=v.2.2.2.2.2.2.2.2.2.2.1
  case neg=>rw[if_neg h11];simp[h11]
  rw[if_pos h11]
  simp[h1,h2,h3,hh,h5,h7,h8,h9,h10,h11]
 ·have hne:¬u.2.2.2.2.2.1=v.2.2.2.2.2.1:=fun e=>hl (by rw[e])
  rw[if_neg bo%]
  simp[hne]
theorem slices_Equal_ok {n:Nat} (hn:4194304+1≤n) {a b:List Bs} (ha:a.length≤4000000):c_slices_Equal_string n a b=some (decide (a=b),()):=by
 obtain ⟨m,rfl⟩:=sn hn
 rw[eq_slices_Equal_string];unfold m_slices_Equal_string
 rw[bif_ndec]
 by_cases hl:a.length=b.length
 ·rw[if_pos bo%]
  exact lists_eq_in _ _ hl bo% ha (fun f st=>rfl)
 ·have hne:¬a=b:=fun e=>hl (by rw[e])
  rw[if_neg bo%,decide_eq_false hne]
theorem impl_Url_same_ok {n:Nat} (hn:4194304+2≤n) {u v:TUrl} (hu:u.2.2.2.2.2.1.length≤4000000):ci_Url_same n u v=some (eqU u v,()):=by
 obtain ⟨m,rfl⟩:=sn hn
 rw[ei_Url_same];unfold mi_Url_same eqU
 have hc:(decide (u.2.2.2.1.1=v.2.2.2.1.1)&&(decide (u.2.2.2.1.2.1=v.2.2.2.1.2.1)&&decide (u.2.2.2.1.2.2.1=v.2.2.2.1.2.2.1)))=decide (u.2.2.2.1.1=v.2.2.2.1.1∧u.2.2.2.1.2.1=v.2.2.2.1.2.1∧u.2.2.2.1.2.2.1=v.2.2.2.1.2.2.1):=by
  rw[Bool.eq_iff_iff];simp
 rw[slices_Equal_ok bo% hu]
 simp only[beq_d,Bool.and_true,hc,bif_dec,Option.bind_some]
 by_cases h1:u.1=v.1
 case neg=>rw[if_neg h1];simp[h1]
 rw[if_pos h1]
 by_cases h2:u.2.1=v.2.1
 case neg=>rw[if_neg h2];simp[h2]
 rw[if_pos h2]
 by_cases h3:u.2.2.1=v.2.2.1
 case neg=>rw[if_neg h3];simp[h3]
 rw[if_pos h3]
 by_cases hh:(u.2.2.2.1.1=v.2.2.2.1.1∧u.2.2.2.1.2.1=v.2.2.2.1.2.1∧u.2.2.2.1.2.2.1=v.2.2.2.1.2.2.1)
 case neg=>rw[if_neg hh];simp;intros;simp_all
 rw[if_pos hh]
 by_cases h5:u.2.2.2.2.1=v.2.2.2.2.1
 case neg=>rw[if_neg h5];simp[h5]
 rw[if_pos h5]
 by_cases h6:u.2.2.2.2.2.1=v.2.2.2.2.2.1
 case neg=>rw[if_neg h6];simp[h6]
 rw[if_pos h6]
 by_cases h7:u.2.2.2.2.2.2.1=v.2.2.2.2.2.2.1
 case neg=>rw[if_neg h7];simp[h7]
 rw[if_pos h7]
 by_cases h8:u.2.2.2.2.2.2.2.1=v.2.2.2.2.2.2.2.1
 case neg=>rw[if_neg h8];simp[h8]
 rw[if_pos h8]
 by_cases h9:u.2.2.2.2.2.2.2.2.1=v.2.2.2.2.2.2.2.2.1
 case neg=>rw[if_neg h9];simp[h9]
 rw[if_pos h9]
 by_cases h10:u.2.2.2.2.2.2.2.2.2.1=v.2.2.2.2.2.2.2.2.2.1
 case neg=>rw[if_neg h10];simp[h10]
 rw[if_pos h10]
 simp[h6,h1,h2,h3,hh,h5,h7,h8,h9,h10]
theorem spec_UrlOk_ok {n:Nat} (hn:4194304+28≤n) {u:TUrl} (hu:BU u):cs_UrlOk n u=some (okU u,()):=by
 obtain ⟨m,rfl⟩:=sn hn
 rw[es_UrlOk];unfold ms_UrlOk okU
 rw[spec_l3Put_ok bo% hu]
 simp only[Option.bind_some]
 rw[spec_UrlGet_ok bo%]
 simp only[Option.bind_some]
 cases h:getM (putM u) with
 | none=>simp[getR_none]
 | some v =>
  have hv:v.2.2.2.2.2.1.length≤4000000:=by
   unfold getM at h
   split at h
   ·cases h
   ·cases hsc:schM (stripM (putM u)) with
    | none=>rw[hsc] at h;cases h
    | some p =>
     rw[hsc] at h
     simp only[] at h
     cases hr:readM p.1 p.2 with
     | none=>rw[hr] at h;cases h
     | some w =>
      rw[hr] at h
      simp only[] at h
      have hl:=schM_len hsc
      have h1:=strip_len (putM u)
      split at h
      ·cases h
       have hb:=(read_BU bo% bo% hr).1
       have:=pathM_len v.2.2.2.2.2.1
       unfold szU at hb
       omega
      ·cases h
  simp only[getR_some,bif_t]
  rw[spec_l3Equal_ok bo% hv];rfl
theorem getM_path {t:Bs} {v:TUrl} (h:getM t=some v):v.2.2.2.2.2.1.length≤12:=by
 unfold getM at h
 split at h
 ·cases h
 ·cases hsc:schM (stripM t) with
  | none=>rw[hsc] at h;cases h
  | some p =>
   rw[hsc] at h
   simp only[] at h
   cases hr:readM p.1 p.2 with
   | none=>rw[hr] at h;cases h
   | some w =>
    rw[hr] at h
    simp only[] at h
    split at h
    ·rename_i hf
     cases h
     unfold fitsM at hf
     rw[Bool.and_eq_true] at hf
     exact of_decide_eq_true hf.1
    ·cases h
theorem impl_UrlOk_ok {n:Nat} (hn:4194304+29≤n) {u:TUrl} (hu:BU u):ci_UrlOk n u=some (okU u,()):=by
 obtain ⟨m,rfl⟩:=sn hn
 rw[ei_UrlOk];unfold mi_UrlOk okU
 rw[impl_Url_text_ok bo% hu]
 simp only[Option.bind_some]
 rw[impl_UrlGet_ok bo%]
 simp only[Option.bind_some]
 obtain ⟨p1,p2⟩:=parseR_get (putM u)
 cases h:getM (putM u) with
 | none =>
  have:=p2 h
  rw[this];rfl
 | some v =>
  rw[p1 v h]
  have hv:=getM_path h
  simp only[bif_t]
  rw[impl_Url_same_ok bo% bo%];rfl
theorem BU_path {u:TUrl} (hu:BU u):u.2.2.2.2.2.1.length≤3000000:=by
 have:=pathM_len u.2.2.2.2.2.1
 have:=hu.1
 unfold szU at this
 omega
end Go.VM.T
namespace Go.VM.T
open Go Go.VM
def slashM (xs:List Bs):Bs:=if pathM xs=[] then [47] else pathM xs
theorem lastIx_take (c:UInt8) (s:Bs) (i:Nat) (x:UInt8) (h:s[i]? = some x):lastIx c (s.take (i+1))=if x=c then (i:Int) else lastIx c (s.take i):=by
 obtain ⟨hi,rfl⟩:=List.getElem?_eq_some_iff.1 h
 rw[List.take_succ_eq_append_getElem hi,lastIx_snoc,List.length_take,Nat.min_eq_left bo%]
def cutPathM (xs:List Bs):Bs:=if 0<lastIx 47 (slashM xs) then (slashM xs).take (lastIx 47 (slashM xs)).toNat else [47]
def pathOfM (u:TUrl):Bs:=if okU u=true then (if u.2.2.2.1.1=0 then [47] else cutPathM u.2.2.2.2.2.1) else [47]
theorem l7Path_ok {n:Nat} (hn:4194304+2≤n) {u:TUrl} (hu:(pathM u.2.2.2.2.2.1).length≤4000000):cs_l7Path n u=some (slashM u.2.2.2.2.2.1,()):=by
 obtain ⟨m,rfl⟩:=sn hn
 rw[es_l7Path];unfold ms_l7Path
 rw[spec_PathPut_ok bo% hu]
 simp only[Option.bind_some]
 unfold slashM
 by_cases h:pathM u.2.2.2.2.2.1=[]
 ·rw[h];rfl
 ·rw[if_neg h,show (pathM u.2.2.2.2.2.1==([]:Bs))=false by simpa using h];rfl
theorem Url_path_ok {n:Nat} (hn:4194304+2≤n) {u:TUrl} (hu:(pathM u.2.2.2.2.2.1).length≤4000000):ci_Url_path n u=some (slashM u.2.2.2.2.2.1,()):=by
 obtain ⟨m,rfl⟩:=sn hn
 rw[ei_Url_path];unfold mi_Url_path
 rw[bif_dec]
 unfold slashM
 by_cases h:u.2.2.2.2.2.1=[]
 ·rw[h];rfl
 ·have h1:u.2.2.2.2.2.1.length≠0:=fun e=>h (List.eq_nil_of_length_eq_zero e)
  rw[if_neg bo%,impl_PathPut_ok bo% hu,if_neg (fun e=>h1 (by have:=pathM_len u.2.2.2.2.2.1;rw[e] at this;simpa using this))]
  rfl
theorem slash_len (xs:List Bs):1≤(slashM xs).length:=by
 unfold slashM
 split
 ·simp
 ·rename_i h;exact List.length_pos_iff.2 h
theorem slash_le {xs:List Bs} {k:Nat} (h:(pathM xs).length≤k) (hk:1≤k):(slashM xs).length≤k:=by
 unfold slashM
 split
 ·simpa using hk
 ·exact h
theorem BU_pathM {u:TUrl} (hu:BU u):(pathM u.2.2.2.2.2.1).length≤4000000:=by
 have:=hu.1
 unfold szU at this
 omega
theorem spec_PathOf_ok {n:Nat} (hn:4194304+30≤n) {u:TUrl} (hu:BU u):cs_PathOf n u=some (pathOfM u,()):=by
 have hp:=BU_pathM hu
 obtain ⟨m,rfl⟩:=sn hn
 rw[es_PathOf];unfold ms_PathOf pathOfM
 rw[spec_UrlOk_ok bo% hu]
 simp only[Option.bind_some]
 by_cases h1:okU u=true
 ·rw[if_pos h1,h1]
  simp only[Bool.not_true,cond_false]
  rw[bif_dec]
  by_cases h2:u.2.2.2.1.1=0
  ·rw[if_pos h2,if_pos h2]
  ·rw[if_neg h2,if_neg h2,l7Path_ok bo% hp]
   simp only[Option.bind_some]
   have hl:=slash_len u.2.2.2.2.2.1
   have hl2:=slash_le (k:=4000000) hp bo%
   unfold cutPathM
   generalize slashM u.2.2.2.2.2.1=s at *
   rw[w64 bo% bo%]
   refine loopR_ind (fun st=>st.1.toNat) (fun (st:Int×Unit) (r:Bs×Unit)=>∃i:Nat,st=((i:Int),())∧i<s.length∧lastIx 47 s=lastIx 47 (s.take (i+1))∧r=(if 0<lastIx 47 s then s.take (lastIx 47 s).toNat else [47],())) ?_ m _ _
    ⟨s.length-1,by congr 1;omega,by omega,by rw[show s.length-1+1=s.length by omega,List.take_length],rfl⟩ (by simp;omega)
   rintro _ _ self ⟨i,rfl,hi,hlast,rfl⟩ ih
   unfold ms_PathOf.l0
   simp only
   obtain ⟨x,hx⟩:∃x,s[i]? = some x:=⟨_,List.getElem?_eq_getElem hi⟩
   rw[lastIx_take 47 s i x hx] at hlast
   rw[bif_dec]
   by_cases h3:(0:Int)<(i:Int)
   ·rw[if_pos h3,grd_dec,if_pos bo%,grd_dec,if_pos bo%,bt_get hx,bif_ndec]
    by_cases h4:x=47
    ·subst h4
     rw[if_pos rfl] at hlast
     rw[if_pos (by rfl),bif_dec,if_neg bo%,grd_dec,if_pos bo%,grd_dec,if_pos bo%,hlast,if_pos h3]
     rfl
    ·rw[if_neg h4] at hlast
     rw[if_neg (fun e=>h4 (UInt8.toNat_inj.1 (show x.toNat=47 by omega)))]
     rw[w64 bo% bo%]
     refine ih _ ?_ ⟨i-1,by congr 1;omega,by omega,by rw[hlast,show i-1+1=i by omega],rfl⟩
     simp only
     omega
   ·rw[if_neg h3,bif_dec,if_pos bo%]
    have h5:¬0<lastIx 47 s:=by
     have h0:i=0:=by omega
     subst h0
     rw[hlast]
     split
     ·omega
     ·simp[lastIx]
    rw[if_neg h5]
 ·have h1:okU u=false:=by simpa using h1
  rw[h1];rfl
theorem impl_PathOf_ok {n:Nat} (hn:4194304+31≤n) {u:TUrl} (hu:BU u):ci_PathOf n u=some (pathOfM u,()):=by
 have hp:=BU_pathM hu
 obtain ⟨m,rfl⟩:=sn hn
 rw[ei_PathOf];unfold mi_PathOf pathOfM
 rw[impl_UrlOk_ok bo% hu]
 simp only[Option.bind_some]
 by_cases h1:okU u=true
 ·rw[if_pos h1,h1]
  simp only[Bool.not_true,cond_false]
  rw[bif_dec]
  by_cases h2:u.2.2.2.1.1=0
  ·rw[if_pos h2,if_pos h2]
  ·rw[if_neg h2,if_neg h2,Url_path_ok bo% hp]
   simp only[Option.bind_some]
   have hl2:=slash_le (k:=4000000) hp bo%
   unfold cutPathM
   generalize slashM u.2.2.2.2.2.1=s at *
   rw[show (47:Int)=((47:UInt8).toNat:Int) from rfl,LastIx_ok bo% hl2]
   simp only[Option.bind_some]
   have hr:=lastIx_range 47 s
   rw[bif_dec]
   by_cases h3:0<lastIx 47 s
   ·rw[if_pos h3,if_pos h3,grd_dec,if_pos bo%,grd_dec,if_pos bo%];rfl
   ·rw[if_neg h3,if_neg h3]
 ·have h1:okU u=false:=by simpa using h1
  rw[h1];rfl
end Go.VM.T
namespace Go.VM.T
open Go Go.VM
end Go.VM.T
namespace Go.VM.T
open Go Go.VM
end Go.VM.T
namespace Go.VM.T
open Go Go.VM
def big64:Nat:=9223372036854775807
def sumL:List Bs→Nat
 | []=>0
 | x :: l=>x.length+sumL l
theorem pathM_sum (l:List Bs):(pathM l).length=l.length+sumL l:=by
 induction l with
 | nil=>rfl
 | cons x l ih=>simp[pathM,sumL,ih];omega
def leftM (left:Int) (k:Nat):Int:=if (k:Int)≤left then left-k else -1
theorem leftM_neg {left:Int} {k:Nat} (h:¬(k:Int)≤left):leftM left k = -1:=by unfold leftM;rw[if_neg h]
theorem leftM_pos {left:Int} {k:Nat} (h:(k:Int)≤left):leftM left k=left-k:=by unfold leftM;rw[if_pos h]
theorem szHost_ok {n:Nat} (hn:4194304+1≤n) {h:THost} {left:Int} (hh:h.2.1.length≤big64) (h0:0≤left) (h1:left≤1048576):cl_szHost n h left=some (leftM left h.2.1.length,()):=by
 obtain ⟨m,rfl⟩:=sn hn
 unfold big64 at hh
 rw[el_szHost];unfold ml_szHost leftM
 rw[w64 bo% bo%,bif_dec]
 by_cases g:(h.2.1.length:Int)≤left
 ·rw[if_neg bo%,if_pos g]
 ·rw[if_pos bo%,if_neg g]
theorem szS_ok {n:Nat} (hn:4194304+1≤n) {l:List Bs} {left:Int} (hl:l.length≤big64) (hs:∀x∈l,x.length≤big64) (h0:0≤left) (h1:left≤1048576):cl_szStringS n l left=some (leftM left (l.length+sumL l),()):=by
 obtain ⟨m,rfl⟩:=sn hn
 unfold big64 at hl hs
 rw[el_szStringS];unfold ml_szStringS
 rw[w64 bo% bo%,bif_dec]
 by_cases g:(l.length:Int)≤left
 ·rw[if_neg bo%]
  have e:leftM left (l.length+sumL l)=leftM (left-l.length) (sumL l):=by
   unfold leftM
   by_cases q:((l.length+sumL l:Nat):Int)≤left
   ·rw[if_pos q,if_pos bo%];omega
   ·rw[if_neg q,if_neg bo%]
  rw[e]
  refine loopS l (fun r i st q=>st.2.1=(i:Int)∧0≤st.1∧st.1≤1048576∧q=(leftM st.1 (sumL r),())) ?_ ?_ ⟨rfl,by dsimp only;omega,by dsimp only;omega,rfl⟩ bo%
  ·rintro ⟨v,i0,⟨⟩⟩ q self ⟨hi0,hv,hv2,rfl⟩
   dsimp only at hi0 hv hv2;subst hi0
   unfold ml_szStringS.l0
   dsimp only
   rw[bif_dec,if_neg bo%]
   unfold leftM sumL
   rw[if_pos bo%];simp
  ·rintro x r i ⟨v,i0,⟨⟩⟩ q self hd hi hx ⟨hi0,hv,hv2,rfl⟩ ih
   dsimp only at hi0 hv hv2;subst hi0
   have hxl:=hs x (List.mem_of_getElem? hx)
   unfold ml_szStringS.l0
   dsimp only
   rw[toNat_nat,getD_get _ hx,w64 (x:=v-(x.length:Int)) bo% bo%,bif_dec,if_pos bo%,grd_dec,if_pos bo%,grd_dec,if_pos bo%,bif_dec]
   by_cases q:v-(x.length:Int)<0
   ·rw[if_pos q]
    unfold sumL
    rw[leftM_neg bo%]
   ·rw[if_neg q]
    refine ih _ ⟨w_i bo%,by dsimp only;omega,by dsimp only;omega,?_⟩
    dsimp only
    unfold leftM
    rw[show sumL (x :: r)=x.length+sumL r from rfl]
    by_cases q2:((x.length+sumL r:Nat):Int)≤v
    ·rw[if_pos q2,if_pos bo%]
     congr 1;omega
    ·rw[if_neg q2,if_neg bo%]
 ·rw[if_pos bo%,leftM_neg bo%]
structure WU (u:TUrl):Prop where
 l1:u.1.length≤big64
 l2:u.2.1.length≤big64
 l3:u.2.2.1.length≤big64
 l4:u.2.2.2.1.2.1.length≤big64
 l5:u.2.2.2.2.2.1.length≤big64
 l6:∀x∈u.2.2.2.2.2.1,x.length≤big64
 l7:u.2.2.2.2.2.2.1.length≤big64
 l8:u.2.2.2.2.2.2.2.2.1.length≤big64
 l9:u.2.2.2.2.2.2.2.2.2.2.1.length≤big64
 p:u.2.2.2.2.1≤9223372036854775807
theorem szUrl_ok {n:Nat} (hn:4194304+2≤n) {u:TUrl} (W:WU u) {left:Int} (h0:0≤left) (h1:left≤1048576):cl_szUrl n u left=some (leftM left (szU u),()):=by
 obtain ⟨m,rfl⟩:=sn hn
 obtain ⟨l1,l2,l3,l4,l5,l6,l7,l8,l9,_⟩:=W
 have b:big64=9223372036854775807:=rfl
 rw[el_szUrl];unfold ml_szUrl szU
 rw[pathM_sum]
 have wr:∀(a:Int) (k:Nat),0≤a→a≤1048576→k≤big64→IntKind.i64.wrap (a-(k:Int))=a-k:=fun a k ha hb hk=>w64 bo% bo%
 rw[wr left _ h0 h1 l1,bif_dec]
 by_cases g1:left-(u.1.length:Int)<0
 ·rw[if_pos g1,leftM_neg bo%]
 rw[if_neg g1,wr _ _ bo% bo% l2,bif_dec]
 by_cases g2:left-(u.1.length:Int)-(u.2.1.length:Int)<0
 ·rw[if_pos g2,leftM_neg bo%]
 rw[if_neg g2,wr _ _ bo% bo% l3,bif_dec]
 by_cases g3:left-(u.1.length:Int)-(u.2.1.length:Int)-(u.2.2.1.length:Int)<0
 ·rw[if_pos g3,leftM_neg bo%]
 rw[if_neg g3,szHost_ok bo% l4 bo% bo%]
 simp only[Option.bind_some]
 by_cases g4:(u.2.2.2.1.2.1.length:Int)≤left-(u.1.length:Int)-(u.2.1.length:Int)-(u.2.2.1.length:Int)
 case neg=>rw[leftM_neg g4,bif_dec,if_pos bo%,leftM_neg bo%]
 rw[leftM_pos g4,bif_dec,if_neg bo%,szS_ok bo% l5 l6 bo% bo%]
 simp only[Option.bind_some]
 by_cases g5:((u.2.2.2.2.2.1.length+sumL u.2.2.2.2.2.1:Nat):Int)≤left-(u.1.length:Int)-(u.2.1.length:Int)-(u.2.2.1.length:Int)-(u.2.2.2.1.2.1.length:Int)
 case neg=>rw[leftM_neg g5,bif_dec,if_pos bo%,leftM_neg bo%]
 rw[leftM_pos g5,bif_dec,if_neg bo%,wr _ _ bo% bo% l7,bif_dec]
 generalize hk:left-(u.1.length:Int)-(u.2.1.length:Int)-(u.2.2.1.length:Int)-(u.2.2.2.1.2.1.length:Int)-((u.2.2.2.2.2.1.length+sumL u.2.2.2.2.2.1:Nat):Int)=k at *
 by_cases g6:k-(u.2.2.2.2.2.2.1.length:Int)<0
 ·rw[if_pos g6,leftM_neg bo%]
 rw[if_neg g6,wr _ _ bo% bo% l8,bif_dec]
 by_cases g7:k-(u.2.2.2.2.2.2.1.length:Int)-(u.2.2.2.2.2.2.2.2.1.length:Int)<0
 ·rw[if_pos g7,leftM_neg bo%]
 rw[if_neg g7,wr _ _ bo% bo% l9,bif_dec]
 by_cases g8:k-(u.2.2.2.2.2.2.1.length:Int)-(u.2.2.2.2.2.2.2.2.1.length:Int)-(u.2.2.2.2.2.2.2.2.2.2.1.length:Int)<0
 ·rw[if_pos g8,leftM_neg bo%]
 rw[if_neg g8,leftM_pos bo%]
 congr 2;omega
theorem toS_ok {n:Nat} (hn:4194304+1≤n) {l:List Bs} (hl:l.length≤4000000):cl_toStringS n l=some (l,()):=by
 obtain ⟨m,rfl⟩:=sn hn
 rw[el_toStringS];unfold ml_toStringS
 rw[grd_dec,if_pos bo%,grd_dec,if_pos bo%,grd_dec,if_pos bo%,toNat_nat]
 refine loopS l (fun r i st q=>st.1=(i:Int)∧st.2.1=l.take i++List.replicate r.length []∧q=(l,())) ?_ ?_ ⟨rfl,by simp,rfl⟩ bo%
 ·rintro ⟨i0,row,⟨⟩⟩ q self ⟨hi0,hr,rfl⟩
  dsimp only at hi0 hr;subst hi0;subst hr
  unfold ml_toStringS.l0
  dsimp only
  rw[bif_dec,if_neg bo%];simp
 ·rintro x r i ⟨i0,row,⟨⟩⟩ q self hd hi hx ⟨hi0,hr,rfl⟩ ih
  dsimp only at hi0 hr;subst hi0
  have hlen:row.length=l.length:=by rw[hr];have:=congrArg List.length hd;simp at this ⊢;omega
  unfold ml_toStringS.l0
  dsimp only
  rw[toNat_nat,getD_get _ hx,bif_dec,if_pos bo%,grd_dec,if_pos bo%,grd_dec,if_pos bo%,grd_dec,if_pos bo%,grd_dec,if_pos bo%,grd_dec,if_pos bo%]
  refine ih _ ⟨w_i bo%,?_,rfl⟩
  dsimp only
  rw[hr,take_succ' hx,List.length_cons,List.replicate_succ,set_app _ _ _ _ i (by simp;omega)]
  simp
theorem toUrl_ok {n:Nat} (hn:4194304+2≤n) {u:TUrl} (hu:u.2.2.2.2.2.1.length≤4000000):cl_toUrl n u=some (u,()):=by
 obtain ⟨m,rfl⟩:=sn hn
 rw[el_toUrl];unfold ml_toUrl
 obtain ⟨m,rfl⟩:=sn (n:=m) (k:=1) bo%
 rw[el_toHost,toS_ok bo% hu];rfl
theorem eqS_ok {n:Nat} (hn:4194304+1≤n) {a b:List Bs} (ha:a.length≤4000000):cl_eqStringS n a b=some (decide (a=b),()):=by
 obtain ⟨m,rfl⟩:=sn hn
 rw[el_eqStringS];unfold ml_eqStringS
 rw[bif_ndec]
 by_cases hl:a.length=b.length
 ·rw[if_pos bo%]
  exact lists_eq_in _ _ hl bo% ha (fun f st=>rfl)
 ·have hne:¬a=b:=fun e=>hl (by rw[e])
  rw[if_neg bo%,decide_eq_false hne]
theorem eqHost_refl {n:Nat} (hn:4194304+1≤n) (h:THost):cl_eqHost n h h=some (true,()):=by
 obtain ⟨m,rfl⟩:=sn hn
 rw[el_eqHost];unfold ml_eqHost
 simp
theorem eqUrl_refl {n:Nat} (hn:4194304+2≤n) {u:TUrl} (hu:u.2.2.2.2.2.1.length≤4000000):cl_eqUrl n u u=some (true,()):=by
 obtain ⟨m,rfl⟩:=sn hn
 rw[el_eqUrl];unfold ml_eqUrl
 rw[eqHost_refl bo%,eqS_ok bo% hu]
 simp
theorem WU_BU {u:TUrl} (W:WU u) {left:Int} (h1:left≤1048576) (h:¬leftM left (szU u)<0):BU u∧0≤leftM left (szU u)∧leftM left (szU u)≤1048576∧u.2.2.2.2.2.1.length≤4000000:=by
 unfold leftM at *
 split at h
 ·rename_i q
  have hb:BU u:=⟨by omega,W.p⟩
  have:=BU_path hb
  exact ⟨hb,by omega,by omega,by omega⟩
 ·omega
end Go.VM.T
namespace Go.VM.T
open Go Go.VM
abbrev tUrl:Ty:=.pair .str (.pair .str (.pair .str (.pair (.pair (.int .i64) (.pair .str (.pair (.int .i64) .unit))) (.pair (.int .i64) (.pair (.lst .str) (.pair .str (.pair .bool (.pair .str (.pair .bool (.pair .str .unit))))))))))
theorem int_le {n:Int} (h:(Lit.int .i64 n).wf=true):n≤9223372036854775807:=by
 simp[Lit.wf] at h
 have e2:IntKind.i64.max=9223372036854775807:=by decide
 omega
theorem WU_of {u:TUrl} (h:Wf tUrl u):WU u:=by
 obtain ⟨h1,h2,h3,⟨_,h4,_⟩,h5,⟨h6,h7⟩,h8,_,h9,_,h10,_⟩:=h
 exact ⟨h1,h2,h3,h4,h6,h7,h8,h9,h10,int_le h5⟩
end Go.VM.T
namespace Go.VM.T
open Go Go.VM
abbrev TRd:=List Int×Int×Unit
structure RdOk (b:List Int):Prop where
 len:b.length≤2000
 byte:∀x∈b,0≤x∧x≤255
def Dr {A:Type} (b:List Int) (p k:Int) (Q:A→Prop) (o:Option (A×TRd×Unit)):Prop:=∃a p',o=some (a,(b,p',()),())∧p≤p'∧p'≤p+k∧Q a
theorem Dr.bind {A C:Type} {b:List Int} {p p1 k k':Int} {Q:A→Prop} {Q':C→Prop} {o:Option (A×TRd×Unit)} {f:(A×TRd×Unit)→Option (C×TRd×Unit)} (h:Dr b p1 k Q o)
  (hf:∀a q,p1≤q→q≤p1+k→Q a→Dr b p k' Q' (f (a,(b,q,()),()))):Dr b p k' Q' (o.bind f):=by
 obtain ⟨a,q,rfl,h1,h2,h3⟩:=h
 exact hf a q h1 h2 h3
theorem Dr.mk {A:Type} {b:List Int} {p k q:Int} {Q:A→Prop} {a:A} (h1:p≤q) (h2:q≤p+k) (h:Q a):Dr b p k Q (some (a,(b,q,()),())):=⟨a,q,rfl,h1,h2,h⟩
theorem Dr.mono {A:Type} {b:List Int} {p k k':Int} {Q Q':A→Prop} {o:Option (A×TRd×Unit)} (h:Dr b p k Q o) (hk:k≤k') (hq:∀a,Q a→Q' a):Dr b p k' Q' o:=by
 obtain ⟨a,q,rfl,h1,h2,h3⟩:=h
 exact ⟨a,q,rfl,h1,by omega,hq a h3⟩
def Sm (u:TUrl):Prop:=szU u≤2000∧-10≤u.2.2.2.2.1∧u.2.2.2.2.1≤70000
theorem Sm.bu {u:TUrl} (h:Sm u):BU u:=⟨by have:=h.1;omega,by have:=h.2.2;omega⟩
structure Code (code:List Int):Prop where
 len:code.length≤1048576
 byte:∀x∈code,0≤x∧x≤255
end Go.VM.T
namespace Go.VM.T
open Go Go.VM
theorem plainName_ok {n:Nat} (hn:4194304+5≤n) {s:Bs} (hs:s.length≤3000000):ci_plainName n s=some (nameOk s,()):=by
 obtain ⟨m,rfl⟩:=sn hn
 rw[ei_plainName];unfold mi_plainName nameOk
 rw[impl_isHostName_ok bo% hs]
 simp only[Option.bind_some]
 cases isNameM s with
 | false=>rfl
 | true=>simp only[cond_true,impl_endsInNumber_ok (n:=m) bo% hs,Option.bind_some,Bool.true_and]
theorem l7Name_ok {n:Nat} (hn:4194304+6≤n) {s:Bs} (hs:s.length≤3000000):cs_l7Name n s=some (nameOk s,()):=by
 obtain ⟨m,rfl⟩:=sn hn
 rw[es_l7Name];unfold ms_l7Name
 rw[spec_HostOk_ok bo% (h:=(1,s,0,())) hs]
 have:okH (1,s,0,())=nameOk s:=by unfold okH hostOkM nameOk;simp
 rw[this];rfl
theorem tok_false {s:Bs} {i:Nat} {c:UInt8} (h:s[i]? = some c) (hc:tokC c=false):tokM s=false:=by
 unfold tokM
 rw[List.all_eq_false.2 ⟨c,List.mem_of_getElem? h,by simp[hc]⟩];rfl
theorem tok_end {s:Bs} (h:s.all tokC=true):tokM s=decide ((s.length:Int)≤20):=by
 unfold tokM;rw[h,Bool.true_and,decide_eq_decide];omega
theorem sep_ix (c:UInt8):decide (0≤Lib.indexByte [59,44,61,34] c)=([59,44,61,34]:Bs).contains c:=by
 have:=u8_all (p:=fun c=>decide (0≤Lib.indexByte [59,44,61,34] c)==([59,44,61,34]:Bs).contains c) (by decide +kernel) c
 simpa using this
theorem IndexByte_ok {n:Nat} (hn:4194304+1≤n) (s:Bs) (c:UInt8):c_strings_IndexByte n s (c.toNat:Int)=some (Lib.indexByte s c,()):=by
 obtain ⟨m,rfl⟩:=sn hn
 have hc:=byte_le c
 rw[eq_strings_IndexByte]
 show (if 0≤(c.toNat:Int)∧(c.toNat:Int)<256 then some (Lib.indexByte s ((c.toNat:Int)).toNat.toUInt8,()) else none)=_
 rw[if_pos ⟨hc.1,by omega⟩]
 simp
theorem isToken_ok {n:Nat} (hn:4194304+2≤n) {s:Bs} (hs:s.length≤4000000):ci_isToken n s=some (tokM s,()):=by
 obtain ⟨m,rfl⟩:=sn hn
 rw[ei_isToken];unfold mi_isToken
 refine loopS s (fun _ i st r=>r=(tokM s,())∧st=((i:Int),())∧(s.take i).all tokC=true) ?_ ?_ ⟨rfl,rfl,by simp⟩ bo%
 ·rintro st r self ⟨rfl,rfl,h⟩
  unfold mi_isToken.l0
  rw[List.take_length] at h
  simp only[bif_dec]
  rw[if_neg bo%,tok_end h]
 ·rintro c L i st r self _ hi hx ⟨rfl,rfl,h⟩ ih
  unfold mi_isToken.l0
  have hb:=bt_get hx
  have i1:(0:Int)≤(i:Int):=by omega
  have i2:(i:Int)<(s.length:Int):=by omega
  simp only[bif_dec,grd_dec,hb,i1,i2,if_true,IndexByte_ok (n:=m) bo%,Option.bind_some,w_i (show i≤4000000 by omega)]
  have hf:tokC c=false→some (false,())=some (tokM s,()):=fun k=>by rw[tok_false hx k]
  by_cases c1:(c.toNat:Int)<33
  ·rw[if_pos c1];exact hf (by unfold tokC;rw[decide_eq_false bo%];rfl)
  rw[if_neg c1]
  by_cases c2:(126:Int)<(c.toNat:Int)
  ·rw[if_pos c2];exact hf (by unfold tokC;rw[decide_eq_false bo%];rfl)
  rw[if_neg c2]
  have hsep:=sep_ix c
  by_cases c3:(0:Int)≤Lib.indexByte [59,44,61,34] c
  ·rw[if_pos c3]
   rw[decide_eq_true c3] at hsep
   exact hf (by unfold tokC;rw[←hsep];simp)
  ·rw[if_neg c3]
   rw[decide_eq_false c3] at hsep
   refine ih _ ⟨rfl,rfl,?_⟩
   rw[take_snoc hx,List.all_append,h]
   simp only[List.all_cons,List.all_nil,Bool.and_true,Bool.true_and]
   unfold tokC
   rw[←hsep,decide_eq_true bo%];rfl
theorem l7Crumb_ok {n:Nat} (hn:4194304+1≤n) {s:Bs} (hs:s.length≤4000000):cs_l7Crumb n s=some (tokM s,()):=by
 obtain ⟨m,rfl⟩:=sn hn
 rw[es_l7Crumb];unfold ms_l7Crumb
 refine loopS s (fun _ i st r=>r=(tokM s,())∧st=((i:Int),())∧(s.take i).all tokC=true) ?_ ?_ ⟨rfl,rfl,by simp⟩ bo%
 ·rintro st r self ⟨rfl,rfl,h⟩
  unfold ms_l7Crumb.l0
  rw[List.take_length] at h
  simp only[bif_dec]
  rw[if_neg bo%,tok_end h]
 ·rintro c L i st r self _ hi hx ⟨rfl,rfl,h⟩ ih
  unfold ms_l7Crumb.l0
  have hb:=bt_get hx
  have i1:(0:Int)≤(i:Int):=by omega
  have i2:(i:Int)<(s.length:Int):=by omega
  simp only[bif_dec,grd_dec,hb,i1,i2,if_true,w_i (show i≤4000000 by omega)]
  have hf:tokC c=false→some (false,())=some (tokM s,()):=fun k=>by rw[tok_false hx k]
  have hin:([59,44,61,34]:Bs).contains c=true→tokC c=false:=fun k=>by unfold tokC;rw[k];simp
  by_cases c1:(c.toNat:Int)≤32
  ·rw[if_pos c1];exact hf (by unfold tokC;rw[decide_eq_false bo%];rfl)
  rw[if_neg c1]
  by_cases c2:(126:Int)<(c.toNat:Int)
  ·rw[if_pos c2];exact hf (by unfold tokC;rw[decide_eq_false bo%];rfl)
  rw[if_neg c2]
  by_cases k1:(c.toNat:Int)=59
  ·rw[if_pos k1]
   obtain rfl:c=59:=(byte_is c 59 bo%).1 k1
   exact hf (hin (by decide))
  rw[if_neg k1]
  by_cases k2:(c.toNat:Int)=44
  ·rw[if_pos k2]
   obtain rfl:c=44:=(byte_is c 44 bo%).1 k2
   exact hf (hin (by decide))
  rw[if_neg k2]
  by_cases k3:(c.toNat:Int)=61
  ·rw[if_pos k3]
   obtain rfl:c=61:=(byte_is c 61 bo%).1 k3
   exact hf (hin (by decide))
  rw[if_neg k3]
  by_cases k4:(c.toNat:Int)=34
  ·rw[if_pos k4]
   obtain rfl:c=34:=(byte_is c 34 bo%).1 k4
   exact hf (hin (by decide))
  rw[if_neg k4]
  refine ih _ ⟨rfl,rfl,?_⟩
  rw[take_snoc hx,List.all_append,h]
  simp only[List.all_cons,List.all_nil,Bool.and_true,Bool.true_and]
  unfold tokC
  rw[decide_eq_true bo%,Bool.true_and]
  have n1:c≠59:=fun e=>k1 (by subst e;rfl)
  have n2:c≠44:=fun e=>k2 (by subst e;rfl)
  have n3:c≠61:=fun e=>k3 (by subst e;rfl)
  have n4:c≠34:=fun e=>k4 (by subst e;rfl)
  simp[n1,n2,n3,n4]
theorem four_of (o:Option Int) (s:Bs):(∀v,o=some v→0≤v∧v≤4294967295)→(bif (numR o).2.1 then (some ((putH (2,[],(numR o).1,())==s),()):Option (Bool×Unit)) else some (false,()))=some ((match o with | some v=>fourT v.toNat==s | none=>false),()):=by
 intro h
 cases o with
 | none=>rfl
 | some v =>
  show some ((hostPutM 2 [] v==s),())=_
  rw[hostPut_four v (h v rfl)]
theorem isFour_ok {n:Nat} (hn:4194304+23≤n) {s:Bs} (hs:s.length≤3000000):ci_isFour n s=some (isFourM s,()):=by
 obtain ⟨m,rfl⟩:=sn hn
 rw[ei_isFour];unfold mi_isFour
 rw[impl_FourGet_ok bo% hs]
 simp only[Option.bind_some,impl_HostPut_ok (n:=m) (h:=(2,[],(numR (fourGetM s)).1,())) bo% (by simp)]
 exact four_of (fourGetM s) s fun v h=>fourGet_range s v h
theorem l7Four_ok {n:Nat} (hn:4194304+23≤n) {s:Bs} (hs:s.length≤3000000):cs_l7Four n s=some (isFourM s,()):=by
 obtain ⟨m,rfl⟩:=sn hn
 rw[es_l7Four];unfold ms_l7Four
 rw[spec_FourGet_ok bo% hs]
 simp only[Option.bind_some,spec_HostPut_ok (n:=m) (h:=(2,[],(numR (fourGetM s)).1,())) bo% (by simp)]
 exact four_of (fourGetM s) s fun v h=>fourGet_range s v h
theorem prefixOk_ok {n:Nat} (hn:4194304+3≤n) (c:TCookie):ci_Cookie_prefixOk n c=some (prefM c,()):=by
 obtain ⟨m,rfl⟩:=sn hn
 rw[ei_Cookie_prefixOk];unfold mi_Cookie_prefixOk prefM
 simp only[strings_HasPrefix_ok (n:=m) bo%,Option.bind_some,beq_d]
 change (bif hostP.isPrefixOf c.1 then _ else (bif secP.isPrefixOf c.1 then _ else _))=_
 cases hostP.isPrefixOf c.1 <;> cases secP.isPrefixOf c.1 <;> cases c.2.2.2.2.2.2.1 <;> cases c.2.2.2.1 <;> simp
theorem pre_short {p s:Bs} (h:s.length<p.length):p.isPrefixOf s=false:=by
 cases e:p.isPrefixOf s with
 | false=>rfl
 | true=>have:=(List.isPrefixOf_iff_prefix.1 e).length_le;omega
theorem l7Prefix_ok {n:Nat} (hn:4194304+1≤n) (c:TCookie):cs_l7Prefix n c=some (prefM c,()):=by
 obtain ⟨m,rfl⟩:=sn hn
 rw[es_l7Prefix];unfold ms_l7Prefix prefM
 have e7:((c.1.take ((7:Int)).toNat).drop 0==([95,95,72,111,115,116,45]:Bs))=hostP.isPrefixOf c.1:=prefix_eq c.1 hostP
 have e9:((c.1.take ((9:Int)).toNat).drop 0==([95,95,83,101,99,117,114,101,45]:Bs))=secP.isPrefixOf c.1:=prefix_eq c.1 secP
 simp only[e7,e9,bif_dec,grd_dec,show ((0:Int)≤7)=True by simp,show ((0:Int)≤9)=True by simp,if_true]
 have h7:¬(7:Int)≤(c.1.length:Int)→hostP.isPrefixOf c.1=false:=fun h=>pre_short (by show c.1.length<7;omega)
 have h9:¬(9:Int)≤(c.1.length:Int)→secP.isPrefixOf c.1=false:=fun h=>pre_short (by show c.1.length<9;omega)
 by_cases k7:(7:Int)≤(c.1.length:Int) <;> by_cases k9:(9:Int)≤(c.1.length:Int)
 ·simp only[k7,k9,if_true]
  cases hostP.isPrefixOf c.1 <;> cases secP.isPrefixOf c.1 <;> cases c.2.2.2.2.2.2.1 <;> cases c.2.2.2.1 <;> simp[beq_d]
 ·simp only[k7,k9,if_true,if_false,h9 k9]
  cases hostP.isPrefixOf c.1 <;> cases c.2.2.2.2.2.2.1 <;> cases c.2.2.2.1 <;> simp[beq_d]
 ·omega
 ·simp only[k7,k9,if_false,h7 k7,h9 k9]
  simp
structure BC (c:TCookie):Prop where
 name:c.1.length≤1100000
 val:c.2.1.length≤1100000
 dom:c.2.2.1.length≤1100000
theorem head_bt (p:Bs) (h:0<p.length):(bt p 0=47)=(p.head? = some 47):=by
 cases p with
 | nil=>simp at h
 | cons c l=>rw[bt_0,show ((c.toNat:Int)=47)=(c=47) from propext (byte_is c 47 bo%)];simp
theorem impl_CookieOk_ok {n:Nat} (hn:4194304+24≤n) {c:TCookie} (B:BC c):ci_CookieOk n c=some (okCookie c,()):=by
 obtain ⟨m,rfl⟩:=sn hn
 have b1:=B.name
 have b2:=B.val
 have b3:=B.dom
 rw[ei_CookieOk];unfold mi_CookieOk okCookie homeM
 simp only[plainName_ok (n:=m) (s:=c.2.2.1) bo% bo%,isFour_ok (n:=m) (s:=c.2.2.1) bo% bo%,isToken_ok (n:=m) (s:=c.1) bo% bo%,isToken_ok (n:=m) (s:=c.2.1) bo% bo%,impl_in_ok (n:=m) bo%,prefixOk_ok (n:=m) bo%,Option.bind_some,beq_d,bif_ndec]
 have e1:decide ((1:Int)≤(c.2.2.2.2.1.length:Int)∧(c.2.2.2.2.1.length:Int)≤200)=decide (1≤c.2.2.2.2.1.length∧c.2.2.2.2.1.length≤200):=by rw[decide_eq_decide];omega
 simp only[e1]
 have key:(bif tokM c.1 then if c.1=[] then some (false,()) else bif tokM c.2.1 then bif decide (1≤c.2.2.2.2.1.length∧c.2.2.2.2.1.length≤200) then grd (decide (0≤(0:Int))) (grd (decide ((0:Int)<(c.2.2.2.2.1.length:Int)))
   (bif decide (bt c.2.2.2.2.1 0=47) then bif prefM c then bif decide (0≤c.2.2.2.2.2.1∧c.2.2.2.2.2.1≤2000001) then bif decide (0≤c.2.2.2.2.2.2.2.2.1∧c.2.2.2.2.2.2.2.2.1≤1000000) then bif decide (0≤c.2.2.2.2.2.2.2.1∧c.2.2.2.2.2.2.2.1≤2) then
    if c.2.2.2.2.2.2.2.1=0 then some (c.2.2.2.2.2.2.1,()) else some (true,()) else some (false,()) else some (false,()) else some (false,()) else some (false,()) else some (false,()))) else some (false,()) else some (false,()) else some (false,())) =
   some ((tokM c.1&&(decide (c.1≠[])&&(tokM c.2.1&&(decide (1≤c.2.2.2.2.1.length∧c.2.2.2.2.1.length≤200)&&(decide (c.2.2.2.2.1.head? = some 47)&&(prefM c&&(decide (0≤c.2.2.2.2.2.1∧c.2.2.2.2.2.1≤2000001)&&(decide (0≤c.2.2.2.2.2.2.2.2.1∧c.2.2.2.2.2.2.2.2.1≤1000000)&&(decide (0≤c.2.2.2.2.2.2.2.1∧c.2.2.2.2.2.2.2.1≤2)&&(decide (c.2.2.2.2.2.2.2.1≠0)||c.2.2.2.2.2.2.1)))))))))),()):=by
  cases tokM c.1 with
  | false=>rfl
  | true =>
  by_cases k1:c.1=[]
  ·simp[k1]
  cases tokM c.2.1 with
  | false=>simp[k1]
  | true =>
  by_cases k2:1≤c.2.2.2.2.1.length∧c.2.2.2.2.1.length≤200
  case neg=>simp[k1,k2]
  have k3:(0:Int)<(c.2.2.2.2.1.length:Int):=by omega
  simp only[k1,k2,k3,if_false,grd_dec,if_true,decide_true,cond_true,Bool.true_and,and_self,head_bt c.2.2.2.2.1 bo%,Int.le_refl,ne_eq,not_false_eq_true]
  by_cases k4:c.2.2.2.2.2.2.2.1=0 <;> cases decide (c.2.2.2.2.1.head? = some 47) <;> cases prefM c <;> cases decide (0≤c.2.2.2.2.2.1∧c.2.2.2.2.2.1≤2000001) <;> cases decide (0≤c.2.2.2.2.2.2.2.2.1∧c.2.2.2.2.2.2.2.2.1≤1000000) <;> cases decide (0≤c.2.2.2.2.2.2.2.1∧c.2.2.2.2.2.2.2.1≤2) <;> simp[k4,grd]
 simp only[key]
 cases nameOk c.2.2.1 with
 | true=>rfl
 | false=>cases c.2.2.2.1 <;> cases isFourM c.2.2.1 <;> rfl
theorem spec_CookieOk_ok {n:Nat} (hn:4194304+24≤n) {c:TCookie} (B:BC c):cs_CookieOk n c=some (okCookie c,()):=by
 obtain ⟨m,rfl⟩:=sn hn
 have b1:=B.name
 have b2:=B.val
 have b3:=B.dom
 rw[es_CookieOk];unfold ms_CookieOk okCookie homeM
 simp only[l7Name_ok (n:=m) (s:=c.2.2.1) bo% bo%,l7Four_ok (n:=m) (s:=c.2.2.1) bo% bo%,l7Crumb_ok (n:=m) (s:=c.1) bo% bo%,l7Crumb_ok (n:=m) (s:=c.2.1) bo% bo%,spec_l1In_ok (n:=m) bo%,l7Prefix_ok (n:=m) bo%,Option.bind_some,beq_d,bif_ndec,bif_dec,grd_dec]
 have e1:decide (1≤c.2.2.2.2.1.length∧c.2.2.2.2.1.length≤200)=(decide (¬(c.2.2.2.2.1.length:Int)=0)&&decide (¬(200:Int)<(c.2.2.2.2.1.length:Int))):=by
  rw[Bool.eq_iff_iff];simp only[Bool.and_eq_true,decide_eq_true_eq];omega
 by_cases k1:c.1=[]
 ·simp[k1]
 by_cases k2:(c.2.2.2.2.1.length:Int)=0
 ·have:decide (1≤c.2.2.2.2.1.length∧c.2.2.2.2.1.length≤200)=false:=decide_eq_false bo%
  simp only[this,k2,if_true,if_false,k1]
  cases nameOk c.2.2.1 <;> cases isFourM c.2.2.1 <;> cases c.2.2.2.1 <;> cases tokM c.1 <;> cases tokM c.2.1 <;> simp
 have k3:(0:Int)<(c.2.2.2.2.1.length:Int):=by omega
 simp only[head_bt c.2.2.2.2.1 bo%,k1,k2,k3,if_true,if_false,Int.le_refl]
 by_cases k4:(200:Int)<(c.2.2.2.2.1.length:Int)
 ·have:decide (1≤c.2.2.2.2.1.length∧c.2.2.2.2.1.length≤200)=false:=decide_eq_false bo%
  simp only[this,k4,if_true]
  cases nameOk c.2.2.1 <;> cases isFourM c.2.2.1 <;> cases c.2.2.2.1 <;> cases tokM c.1 <;> cases tokM c.2.1 <;> simp
 have:decide (1≤c.2.2.2.2.1.length∧c.2.2.2.2.1.length≤200)=true:=decide_eq_true bo%
 simp only[this,k4,if_false]
 by_cases k5:c.2.2.2.2.1.head? = some 47
 case neg =>
  simp only[k5,if_false,decide_false]
  cases nameOk c.2.2.1 <;> cases isFourM c.2.2.1 <;> cases c.2.2.2.1 <;> cases tokM c.1 <;> cases tokM c.2.1 <;> simp
 simp only[k5,if_true,decide_true]
 by_cases k6:0≤c.2.2.2.2.2.1∧c.2.2.2.2.2.1≤2000001 <;> by_cases k7:0≤c.2.2.2.2.2.2.2.2.1∧c.2.2.2.2.2.2.2.2.1≤1000000 <;> by_cases k8:0≤c.2.2.2.2.2.2.2.1∧c.2.2.2.2.2.2.2.1≤2 <;> by_cases k9:c.2.2.2.2.2.2.2.1=0
 all_goals
  simp only[k6,k7,k8,k9,if_true,if_false,decide_true,decide_false,and_self,ne_eq,not_true_eq_false,not_false_eq_true,k1]
  cases nameOk c.2.2.1 <;> cases isFourM c.2.2.1 <;> cases c.2.2.2.1 <;> cases tokM c.1 <;> cases tokM c.2.1 <;> cases prefM c <;> simp[k1,k6,k7,k8,k9]
end Go.VM.T
namespace Go.VM.T
open Go Go.VM
theorem suf_len {s p:Bs} (h:¬p.length≤s.length):p.isSuffixOf s=false:=by
 cases e:p.isSuffixOf s with
 | false=>rfl
 | true=>exact absurd (List.IsSuffix.length_le (List.isSuffixOf_iff_suffix.1 e)) h
theorem suf_eq (s p:Bs):(s.drop (s.length-p.length)==p)=p.isSuffixOf s:=by
 rw[Bool.eq_iff_iff,beq_iff_eq,List.isSuffixOf_iff_suffix,List.suffix_iff_eq_drop];exact eq_comm
theorem ends_go {s p:Bs} (hs:s.length≤4000000):(bif (decide ((p.length:Int)≤(s.length:Int))) then (grd (decide (0≤(IntKind.i64.wrap ((s.length:Int)-(p.length:Int))))) (grd (decide ((IntKind.i64.wrap ((s.length:Int)-(p.length:Int)))≤(s.length:Int))) (some ((((s.take s.length).drop (IntKind.i64.wrap ((s.length:Int)-(p.length:Int))).toNat)==p),())))) else (some (false,()):Option (Bool×Unit)))=some (p.isSuffixOf s,()):=by
 rw[bif_dec]
 by_cases h:(p.length:Int)≤(s.length:Int)
 ·have hw:IntKind.i64.wrap ((s.length:Int)-(p.length:Int))=((s.length-p.length:Nat):Int):=by rw[w64 bo% bo%];omega
  rw[if_pos h,hw,grd_dec,if_pos bo%,grd_dec,if_pos bo%,Int.toNat_natCast,List.take_length,suf_eq]
 ·rw[if_neg h,suf_len bo%]
theorem l7Ends_ok {n:Nat} (hn:4194304+1≤n) {s p:Bs} (hs:s.length≤4000000):cs_l7Ends n s p=some (p.isSuffixOf s,()):=by
 obtain ⟨m,rfl⟩:=sn hn
 rw[es_l7Ends];unfold ms_l7Ends
 exact ends_go hs
theorem HasSuffix_ok {n:Nat} (hn:4194304+2≤n) {s p:Bs} (hs:s.length≤4000000):c_strings_HasSuffix n s p=some (p.isSuffixOf s,()):=by
 obtain ⟨m,rfl⟩:=sn hn
 rw[eq_strings_HasSuffix];unfold m_strings_HasSuffix
 obtain ⟨k,rfl⟩:∃k,m=k+1:=⟨m-1,by omega⟩
 rw[eq_stringslite_HasSuffix];unfold m_stringslite_HasSuffix
 rw[ends_go hs];rfl
theorem dom_go {h d:Bs}:(bif (!(h==([]:Bs))) then (bif (!(d==([]:Bs))) then (bif (h==d) then (some (true,())) else (bif nameOk h then (some ((46 :: d).isSuffixOf h,())) else (some (false,())))) else (some (false,()))) else (some (false,()):Option (Bool×Unit)))=some (domM h d,()):=by
 unfold domM
 by_cases h1:h=[]
 ·simp[h1]
 by_cases h2:d=[]
 ·simp[h2]
 by_cases h3:h=d
 ·subst h3
  rw[show (h==([]:Bs))=false by simpa using h1,show (h==h)=true by simp,decide_eq_true h1,decide_eq_true (rfl:h=h)];rfl
 rw[show (h==([]:Bs))=false by simpa using h1,show (d==([]:Bs))=false by simpa using h2,show (h==d)=false by simpa using h3,decide_eq_true h1,decide_eq_true h2,decide_eq_false h3]
 cases nameOk h <;> rfl
theorem impl_DomainIn_ok {n:Nat} (hn:4194304+7≤n) {h d:Bs} (hh:h.length≤3000000) (hd:d.length≤3000000):ci_DomainIn n h d=some (domM h d,()):=by
 obtain ⟨m,rfl⟩:=sn hn
 rw[ei_DomainIn];unfold mi_DomainIn
 have hl:([46]:Bs).length+d.length≤9223372036854775807:=by simp;omega
 simp only[plainName_ok (n:=m) (s:=h) bo% hh,HasSuffix_ok (n:=m) (s:=h) bo% bo%,Option.bind_some,grd_dec,hl,if_true]
 exact dom_go
theorem spec_DomainIn_ok {n:Nat} (hn:4194304+7≤n) {h d:Bs} (hh:h.length≤3000000) (hd:d.length≤3000000):cs_DomainIn n h d=some (domM h d,()):=by
 obtain ⟨m,rfl⟩:=sn hn
 rw[es_DomainIn];unfold ms_DomainIn
 have hl:([46]:Bs).length+d.length≤9223372036854775807:=by simp;omega
 simp only[l7Name_ok (n:=m) (s:=h) bo% hh,l7Ends_ok (n:=m) (s:=h) bo% bo%,Option.bind_some,grd_dec,hl,if_true]
 rw[←dom_go]
 have:∀a b:Bool,(bif a then (some (b,()):Option (Bool×Unit)) else some (false,()))=bif b then some (a,()) else some (false,()):=by decide
 rw[this];rfl
theorem over_go {c:TCookie} (h:okCookie c=true) (now:Int):(bif (!decide (c.2.2.2.2.2.1=(0:Int))) then (some ((decide ((IntKind.i64.wrap (c.2.2.2.2.2.1-(1:Int)))≤now)),())) else (some (false,()):Option (Bool×Unit)))=some (overM c now,()):=by
 unfold overM
 simp only[okCookie,Bool.and_eq_true,decide_eq_true_eq] at h
 obtain ⟨_,_,_,_,_,_,_,⟨h1,h2⟩,_⟩:=h
 by_cases h0:c.2.2.2.2.2.1=0
 ·simp[h0]
 ·rw[w64 bo% bo%];simp[h0]
theorem expired_ok {n:Nat} (hn:4194304+1≤n) {c:TCookie} (h:okCookie c=true) (now:Int):ci_Cookie_expired n c now=some (overM c now,()):=by
 obtain ⟨m,rfl⟩:=sn hn
 rw[ei_Cookie_expired];unfold mi_Cookie_expired
 exact over_go h now
theorem l7Over_ok {n:Nat} (hn:4194304+1≤n) {c:TCookie} (h:okCookie c=true) (now:Int):cs_l7Over n c now=some (overM c now,()):=by
 obtain ⟨m,rfl⟩:=sn hn
 rw[es_l7Over];unfold ms_l7Over
 exact over_go h now
theorem host_b {u:TUrl} (hu:BU u):u.2.2.2.1.2.1.length≤3000000:=by
 have:=hu.1
 unfold szU at this
 omega
end Go.VM.T
namespace Go.VM.T
open Go Go.VM
def Tot {A:Type} (o:Option A) (Q:A→Prop):Prop:=∃a,o=some a∧Q a
theorem Tot.bind {A C:Type} {o:Option A} {Q:A→Prop} {f:A→Option C} {Q':C→Prop} (h:Tot o Q) (hf:∀a,Q a→Tot (f a) Q'):Tot (o.bind f) Q':=by
 obtain ⟨a,rfl,ha⟩:=h
 exact hf a ha
theorem Tot.cond {A:Type} {p:Bool} {x y:Option A} {Q:A→Prop} (h1:p=true→Tot x Q) (h2:p=false→Tot y Q):Tot (bif p then x else y) Q:=by
 cases p
 ·exact h2 rfl
 ·exact h1 rfl
theorem Tot.grd {A:Type} {p:Prop} [Decidable p] {x:Option A} {Q:A→Prop} (hp:p) (h:Tot x Q):Tot (Go.VM.grd (decide p) x) Q:=by
 rw[grd_dec,if_pos hp];exact h
theorem Tot.one {A:Type} {a:A} {Q:A→Prop} (h:Q a):Tot (some a) Q:=⟨a,rfl,h⟩
theorem Tot.of {A:Type} {o:Option A} {a:A} {Q:A→Prop} (e:o=some a) (h:Q a):Tot o Q:=⟨a,e,h⟩
theorem Tot.mono {A:Type} {o:Option A} {Q Q':A→Prop} (h:Tot o Q) (k:∀a,Q a→Q' a):Tot o Q':=by
 obtain ⟨a,e,ha⟩:=h
 exact ⟨a,e,k a ha⟩
theorem l7Cut_ok {n:Nat} (hn:4194304+1≤n) {s:Bs} (hs:s.length≤4000000) (c:UInt8):cs_l7Cut n s (c.toNat:Int)=some (cutM c s,()):=by
 obtain ⟨m,rfl⟩:=sn hn
 have h:=spec_l1Cut_ok hn hs c
 rw[es_l1Cut] at h
 rw[es_l7Cut]
 exact h
end Go.VM.T
namespace Go.VM.T
open Go Go.VM
theorem Trim_ok {n:Nat} (hn:4194304+1≤n) {s:Bs} (hs:s.length≤4000000):c_strings_Trim n s [32]=some (trimS s,()):=by
 obtain ⟨m,rfl⟩:=sn hn
 rw[eq_strings_Trim]
 show (if s.length≤fits∧(32:UInt8).toNat<128 then some (Lib.trimB s 32,()) else none)=_
 rw[if_pos ⟨by unfold fits;omega,by decide⟩,trim_lib]
theorem rsp_go {n:Nat} {k:Nat} {s:Bs} (hs:s.length≤4000000) (hk:s.length<k):loopR (ms_l7Trim.l0 n) k (s,())=some (rsp s,()):=by
 refine loopR_ind (fun st=>st.1.length) (fun st r=>st.1.length≤4000000∧r=(rsp st.1,())) ?_ k _ _ ⟨hs,rfl⟩ hk
 rintro ⟨l,⟨⟩⟩ r self ⟨hl,rfl⟩ ih
 dsimp only at hl
 unfold ms_l7Trim.l0
 dsimp only
 rcases List.eq_nil_or_concat l with rfl | ⟨t,c,rfl⟩
 ·rfl
 ·have e1:(t.concat c).length=t.length+1:=by simp
  have e2:IntKind.i64.wrap (((t.concat c).length:Int)-1)=(t.length:Int):=by rw[e1,w64 bo% bo%];omega
  rw[e2,bif_dec,if_pos bo%,grd_dec,if_pos bo%,grd_dec,if_pos bo%,bt_get (c:=c) (by simp),List.concat_eq_append,rsp_snoc,bif_dec]
  by_cases hc:c=32
  ·subst hc
   have e3:((t++[(32:UInt8)]).take ((t.length:Nat):Int).toNat).drop 0=t:=by simp
   rw[if_pos rfl,if_pos (show (((32:UInt8).toNat:Int)=32) from rfl),grd_dec,if_pos bo%,grd_dec,if_pos (by simp;omega),e3]
   exact (ih (t,()) (by simp) ⟨by simp at hl ⊢;omega,by simp[rsp_snoc]⟩).trans (by simp[rsp_snoc])
  ·rw[if_neg hc,if_neg (show ¬((c.toNat:Int)=32) from fun h=>hc ((byte_is c 32 bo%).1 h))]
theorem l7Trim_ok {n:Nat} (hn:4194304+1≤n) {s:Bs} (hs:s.length≤4000000):cs_l7Trim n s=some (trimS s,()):=by
 obtain ⟨m,rfl⟩:=sn hn
 rw[es_l7Trim];unfold ms_l7Trim
 refine loopR_ind (fun st=>st.1.length) (fun st r=>st.1.length≤4000000∧r=(trimS st.1,())) ?_ m _ _ ⟨hs,rfl⟩ (by dsimp only;omega)
 rintro ⟨l,⟨⟩⟩ r self ⟨hl,rfl⟩ ih
 dsimp only at hl
 unfold ms_l7Trim.l2
 dsimp only
 have e0:ms_l7Trim.l1 m=ms_l7Trim.l0 m:=rfl
 cases l with
 | nil =>
  rw[bif_dec,if_neg (by simp),e0,rsp_go (by simp) (by simp;omega)];rfl
 | cons c l =>
  have hl0:(0:Int)<((c :: l).length:Int):=by rw[List.length_cons];omega
  rw[bif_dec,if_pos hl0,grd_dec,if_pos bo%,grd_dec,if_pos hl0,bt_0,bif_dec]
  by_cases hc:c=32
  ·subst hc
   have e3:(((32:UInt8) :: l).take ((32:UInt8) :: l).length).drop (1:Int).toNat=l:=by simp
   rw[if_pos (show (((32:UInt8).toNat:Int)=32) from rfl),grd_dec,if_pos bo%,grd_dec,if_pos bo%,e3]
   exact (ih (l,()) (by simp) ⟨by simp at hl ⊢;omega,by simp[trimS,sp]⟩).trans (by simp[trimS,sp])
  ·rw[if_neg (show ¬((c.toNat:Int)=32) from fun h=>hc ((byte_is c 32 bo%).1 h)),rsp_go hl bo%]
   unfold trimS
   rw[List.dropWhile_cons,if_neg (show ¬sp c=true by simp[sp,hc])]
theorem l7Pair_ok {n:Nat} (hn:4194304+2≤n) {s:Bs} (hs:s.length≤3000000):cs_l7Pair n s=some ((nvM s).1,(nvM s).2,()):=by
 obtain ⟨m,rfl⟩:=sn hn
 rw[es_l7Pair];unfold ms_l7Pair
 refine loopS s (fun rest i st r=>st=((i:Int),())∧r=((nvM s).1,(nvM s).2,())∧s.drop i=rest∧cut1 61 s=(s.take i++(cut1 61 rest).1,(cut1 61 rest).2)) ?_ ?_ ⟨rfl,rfl,by simp,by simp⟩ bo%
 ·rintro st r self ⟨rfl,rfl,_,h⟩
  unfold ms_l7Pair.l0
  simp only[bif_dec]
  rw[if_neg bo%,l7Trim_ok bo% bo%]
  unfold nvM
  rw[h]
  simp only[cut1,List.take_length,List.append_nil,Option.bind_some,Option.getD_none]
  rfl
 ·rintro c L i st r self hd hi hx ⟨rfl,rfl,hd2,h⟩ ih
  unfold ms_l7Pair.l0
  have hb:=bt_get hx
  have i1:(0:Int)≤(i:Int):=by omega
  have i2:(i:Int)<(s.length:Int):=by omega
  simp only[bif_dec,grd_dec,hb,i1,i2,if_true,w_i (show i≤4000000 by omega)]
  by_cases hc:c=61
  ·subst hc
   have e:L=s.drop (i+1):=by
    have:=congrArg List.tail hd
    simpa using this.symm
   rw[if_pos (show (((61:UInt8).toNat:Int)=61) from rfl),if_pos bo%,l7Trim_ok bo% (by simp;omega),Option.bind_some,if_pos bo%,if_pos bo%,l7Trim_ok bo% (by simp;omega)]
   unfold nvM
   rw[h]
   simp[cut1,e]
  ·rw[if_neg (show ¬((c.toNat:Int)=61) from fun h=>hc ((byte_is c 61 bo%).1 h))]
   refine ih _ ⟨rfl,rfl,?_,?_⟩
   ·have:=congrArg List.tail hd
    simpa using this
   ·rw[h,take_snoc hx]
    simp[cut1,hc]
theorem numL_snoc (l:Bs) (c:UInt8):numL 0 (l++[c])=numL 0 l*10+(c.toNat-48):=by simp[numL]
theorem fig_take {s:Bs} {i:Nat} (hf:(s.take i).all figB=true) (hi:i≤7):numL 0 (s.take i)<10000000:=by
 have h:(s.take i).length≤7:=by simp;omega
 exact (num_ok _ 0 hf (pow7 h)).2
theorem fig_false {s:Bs} {i:Nat} {c:UInt8} (h:s[i]? = some c) (hc:figB c=false):s.all figB=false:=by
 rw[List.all_eq_false];exact ⟨c,List.mem_of_getElem? h,by simp[hc]⟩
theorem l7Age_ok {n:Nat} (hn:4194304+1≤n) {s:Bs} (hs:s.length≤4000000):cs_l7Age n s=some (ageM s,()):=by
 obtain ⟨m,rfl⟩:=sn hn
 rw[es_l7Age];unfold ms_l7Age
 refine loopS s (fun _ i st r=>st=((numL 0 (s.take i):Int),(i:Int),())∧r=(ageM s,())∧(s.take i).all figB=true∧i≤7) ?_ ?_ ⟨rfl,rfl,by simp,by omega⟩ bo%
 ·rintro st r self ⟨rfl,rfl,hf,h7⟩
  unfold ms_l7Age.l0
  rw[List.take_length] at *
  have hn7:=(num_ok _ 0 hf (pow7 h7)).2
  simp only[bif_dec]
  rw[if_neg bo%]
  by_cases h0:(s.length:Int)=0
  ·rw[if_pos h0,ageM_neg (fun h=>by omega)]
  ·rw[if_neg h0]
   by_cases hm:(1000000:Int)<(numL 0 s:Int)
   ·rw[if_pos hm,ageM_neg (fun h=>by omega)]
   ·rw[if_neg hm,ageM_pos ⟨hf,by omega,h7,by omega⟩]
 ·rintro c L i st r self hd hi hx ⟨rfl,rfl,hf,h7⟩ ih
  unfold ms_l7Age.l0
  have hb:=bt_get hx
  have hc:=byte_le c
  have i1:(0:Int)≤(i:Int):=by omega
  have i2:(i:Int)<(s.length:Int):=by omega
  have hn7:=fig_take hf h7
  simp only[bif_dec,grd_dec,hb,i1,i2,if_true]
  by_cases c1:(c.toNat:Int)<48
  ·rw[if_pos c1,ageM_neg (fun h=>by have:=fig_false hx (by unfold figB;rw[decide_eq_false bo%]);rw[this] at h;exact absurd h.1 (by simp))]
  rw[if_neg c1]
  by_cases c2:(57:Int)<(c.toNat:Int)
  ·rw[if_pos c2,ageM_neg (fun h=>by have:=fig_false hx (by unfold figB;rw[decide_eq_false bo%]);rw[this] at h;exact absurd h.1 (by simp))]
  rw[if_neg c2]
  by_cases c3:(7:Int)≤(i:Int)
  ·rw[if_pos c3,ageM_neg (fun h=>by omega)]
  rw[if_neg c3]
  refine ih _ ⟨?_,rfl,?_,by omega⟩
  ·rw[take_snoc hx,numL_snoc,w8 (x:=(c.toNat:Int)-48) bo% bo%,w64 (x:=(c.toNat:Int)-48) bo% bo%,w64 (x:=(numL 0 (s.take i):Int)*10) bo% bo%,w64 bo% bo%,w64 bo% bo%]
   simp only[Prod.mk.injEq,and_true]
   omega
  ·rw[take_snoc hx,List.all_append,hf]
   simp only[List.all_cons,List.all_nil,Bool.and_true,Bool.true_and]
   unfold figB;rw[decide_eq_true bo%]
theorem TrimPrefix_ok {n:Nat} (hn:4194304+3≤n) {v:Bs} (hv:v.length≤4000000):c_strings_TrimPrefix n v [46]=some (dot1 v,()):=by
 obtain ⟨m,rfl⟩:=sn hn
 rw[eq_strings_TrimPrefix];unfold m_strings_TrimPrefix
 obtain ⟨k,rfl⟩:=sn (n:=m) (k:=2) bo%
 rw[eq_stringslite_TrimPrefix];unfold m_stringslite_TrimPrefix dot1
 rw[stringslite_HasPrefix_ok bo%]
 simp only[Option.bind_some]
 cases h:([46]:Bs).isPrefixOf v with
 | false=>rfl
 | true =>
  have:=(List.isPrefixOf_iff_prefix.1 h).length_le
  simp at this
  simp only[cond_true,grd_dec,if_true]
  rw[if_pos (by simp),if_pos (by simp;omega)]
  simp
theorem pre_head (v:Bs) (k:UInt8) (h:v≠[]):decide (bt v 0=(k.toNat:Int))=([k]:Bs).isPrefixOf v:=by
 cases v with
 | nil=>exact absurd rfl h
 | cons c l =>
  rw[bt_0,Bool.eq_iff_iff]
  simp only[decide_eq_true_eq,List.isPrefixOf_iff_prefix,List.cons_prefix_cons,List.nil_prefix,and_true]
  constructor
  ·intro h;have:c.toNat=k.toNat:=by omega
   exact (UInt8.toNat_inj.1 this).symm
  ·rintro rfl;rfl
theorem atoi_x {n:Nat} (hn:4194304+1≤n) {s:Bs} (hs:s.length≤4000000):∃v b,c_strconv_Atoi n s=some (v,b,())∧(s.all figB=true→1≤s.length→s.length≤7→v=(numL 0 s:Int)∧b=true)∧(s=[]→b=false):=by
 obtain ⟨m,rfl⟩:=sn hn
 rw[eq_strconv_Atoi]
 have e:x_strconv_Atoi (s,())=some (match Lib.atoiAll s with | .ok v=>(v,true,()) | .syntax=>(0,false,()) | .range=>(Lib.atoiSat s,false,())):=by
  show (if s.length≤fits then _ else none)=_
  rw[if_pos (by unfold fits;omega)]
  cases Lib.atoiAll s <;> rfl
 refine ⟨(match Lib.atoiAll s with | .ok v=>(v,true,()) | .syntax=>(0,false,()) | .range=>(Lib.atoiSat s,false,()):Int×Bool×Unit).1,(match Lib.atoiAll s with | .ok v=>(v,true,()) | .syntax=>(0,false,()) | .range=>(Lib.atoiSat s,false,()):Int×Bool×Unit).2.1,e,fun h1 h2 h3=>?_,fun h=>?_⟩
 ·rw[atoi_fig h1 h2 h3];exact ⟨rfl,rfl⟩
 ·subst h;rfl
theorem digB_fig (c:UInt8):digB c=figB c:=by
 have:=u8_all (p:=fun c=>digB c==figB c) (by decide +kernel) c
 simpa using this
theorem set_ok {n:Nat} (hn:4194304+4≤n) (c:TCookie) {k v:Bs} (hv:v.length≤3000000) {now:Int} (h0:0≤now) (h1:now≤1000000):ci_Cookie_set n c k v now=some (partM c now k v,()):=by
 obtain ⟨m,rfl⟩:=sn hn
 rw[ei_Cookie_set];unfold mi_Cookie_set partM
 simp only[beq_d,bif_dec,bif_ndec]
 rw[impl_Lower_ok bo% bo%]
 simp only[Option.bind_some]
 by_cases e1:k=kDomain
 ·rw[if_pos e1,if_pos (show k=[100,111,109,97,105,110] from e1)]
  by_cases e:v=[]
  ·rw[if_pos e,if_pos e]
  ·rw[if_neg e,if_neg e,TrimPrefix_ok bo% (by rw[lowM_len];omega),low_dot];rfl
 rw[if_neg e1,if_neg (show ¬k=[100,111,109,97,105,110] from e1)]
 by_cases e2:k=kPath
 ·rw[if_pos e2,if_pos (show k=[112,97,116,104] from e2),strings_HasPrefix_ok bo%]
  simp only[Option.bind_some]
  cases ([47]:Bs).isPrefixOf v <;> rfl
 rw[if_neg e2,if_neg (show ¬k=[112,97,116,104] from e2)]
 by_cases e3:k=kAge
 ·rw[if_pos e3,if_pos (show k=[109,97,120,45,97,103,101] from e3)]
  obtain ⟨z,b,ha,hz,hb⟩:=atoi_x (n:=m) (s:=v) bo% bo%
  rw[ha]
  simp only[Option.bind_some]
  have hag:=ageM_r v
  refine loopS v (fun _ i st r=>st=((i:Int),())∧r=((if 0≤ageM v then (c.1,c.2.1,c.2.2.1,c.2.2.2.1,c.2.2.2.2.1,now+ageM v+1,c.2.2.2.2.2.2) else c:TCookie),())∧(v.take i).all figB=true) ?_ ?_ ⟨rfl,rfl,by simp⟩ bo%
  ·rintro st r self ⟨rfl,rfl,hf⟩
   unfold mi_Cookie_set.l0
   rw[List.take_length] at hf
   simp only[bif_dec]
   rw[if_neg bo%]
   by_cases hl0:v=[]
   ·rw[hb hl0,ageM_neg (fun h=>by subst hl0;simp at h)];rfl
   have hl1:1≤v.length:=List.length_pos_iff.2 hl0
   by_cases h7:v.length≤7
   ·obtain ⟨rfl,rfl⟩:=hz hf hl1 h7
    simp only[cond_true]
    rw[if_pos bo%]
    by_cases hm:(numL 0 v:Int)≤1000000
    ·rw[if_pos hm,ageM_pos ⟨hf,hl1,h7,by omega⟩,if_pos bo%,w64 (x:=now+(numL 0 v:Int)) bo% bo%,w64 bo% bo%]
    ·rw[if_neg hm,ageM_neg (fun h=>by omega)];rfl
   ·rw[ageM_neg (fun h=>by omega),if_neg bo%]
    cases b <;> rfl
  ·rintro d L i st r self hd hi hx ⟨rfl,rfl,hf⟩ ih
   unfold mi_Cookie_set.l0
   have hbt:=bt_get hx
   simp only[bif_dec,grd_dec,hbt,w_i (show i≤4000000 by omega)]
   rw[if_pos bo%,if_pos bo%,if_pos bo%,impl_isDigit_ok bo%]
   simp only[Option.bind_some,digB_fig]
   cases hfd:figB d with
   | false =>
    rw[ageM_neg (fun h=>by rw[fig_false hx hfd] at h;exact absurd h.1 (by simp))]
    rfl
   | true =>
    refine ih _ ⟨rfl,rfl,?_⟩
    rw[take_snoc hx,List.all_append,hf]
    simp[hfd]
 rw[if_neg e3,if_neg (show ¬k=[109,97,120,45,97,103,101] from e3)]
 by_cases e4:k=kSecure
 ·rw[if_pos e4,if_pos (show k=[115,101,99,117,114,101] from e4)]
 rw[if_neg e4,if_neg (show ¬k=[115,101,99,117,114,101] from e4)]
 by_cases e5:k=kSame
 ·rw[if_pos e5,if_pos (show k=[115,97,109,101,115,105,116,101] from e5)]
  by_cases g1:lowM v=kNone
  ·rw[if_pos g1,if_pos (show lowM v=[110,111,110,101] from g1)]
  rw[if_neg g1,if_neg (show ¬lowM v=[110,111,110,101] from g1)]
  by_cases g2:lowM v=kStrict
  ·rw[if_pos g2,if_pos (show lowM v=[115,116,114,105,99,116] from g2)]
  rw[if_neg g2,if_neg (show ¬lowM v=[115,116,114,105,99,116] from g2)]
 rw[if_neg e5,if_neg (show ¬k=[115,97,109,101,115,105,116,101] from e5)]
theorem l7Part_ok {n:Nat} (hn:4194304+4≤n) (c:TCookie) {k v:Bs} (hk:k.length≤3000000) (hv:v.length≤3000000) {now:Int} (h0:0≤now) (h1:now≤1000000):cs_l7Part n c now k v=some (partM c now (lowM k) v,()):=by
 obtain ⟨m,rfl⟩:=sn hn
 rw[es_l7Part];unfold ms_l7Part partM
 rw[spec_Lower_ok bo% bo%]
 simp only[Option.bind_some,beq_d,bif_dec,bif_ndec]
 rw[spec_Lower_ok (n:=m) (s:=v) bo% bo%,spec_Lower_ok (n:=m) (s:=(v.take v.length).drop (1:Int).toNat) bo% (by simp;omega),l7Age_ok bo% bo%]
 simp only[Option.bind_some,grd_dec]
 have hag:=ageM_r v
 by_cases e1:lowM k=kDomain
 ·rw[if_pos e1,if_pos (show lowM k=[100,111,109,97,105,110] from e1)]
  by_cases e:v=[]
  ·rw[if_pos e,if_pos e]
  ·have hl:1≤v.length:=List.length_pos_iff.2 e
   rw[if_neg e,if_neg e,if_pos bo%,if_pos bo%]
   have hp:=pre_head v 46 e
   unfold dot1
   rw[←hp]
   by_cases g:bt v 0=46
   ·rw[if_pos g,if_pos bo%,if_pos bo%,if_pos (by simpa using g)];simp
   ·rw[if_neg g,if_neg (by simpa using g)]
 rw[if_neg e1,if_neg (show ¬lowM k=[100,111,109,97,105,110] from e1)]
 by_cases e2:lowM k=kPath
 ·rw[if_pos e2,if_pos (show lowM k=[112,97,116,104] from e2)]
  by_cases e:v=[]
  ·subst e;rfl
  ·have hl:1≤v.length:=List.length_pos_iff.2 e
   rw[if_neg e,if_pos bo%,if_pos bo%]
   have hp:=pre_head v 47 e
   rw[←hp]
   by_cases g:bt v 0=47
   ·rw[if_pos g,if_pos (by simpa using g)]
   ·rw[if_neg g,if_neg (by simpa using g)]
 rw[if_neg e2,if_neg (show ¬lowM k=[112,97,116,104] from e2)]
 by_cases e3:lowM k=kAge
 ·rw[if_pos e3,if_pos (show lowM k=[109,97,120,45,97,103,101] from e3)]
  by_cases g:0≤ageM v
  ·rw[if_pos g,if_pos g,w64 (x:=now+ageM v) bo% bo%,w64 bo% bo%]
  ·rw[if_neg g,if_neg g]
 rw[if_neg e3,if_neg (show ¬lowM k=[109,97,120,45,97,103,101] from e3)]
 by_cases e4:lowM k=kSecure
 ·rw[if_pos e4,if_pos (show lowM k=[115,101,99,117,114,101] from e4)]
 rw[if_neg e4,if_neg (show ¬lowM k=[115,101,99,117,114,101] from e4)]
 by_cases e5:lowM k=kSame
 ·rw[if_pos e5,if_pos (show lowM k=[115,97,109,101,115,105,116,101] from e5)]
  by_cases g1:lowM v=kNone
  ·rw[if_pos g1,if_pos (show lowM v=[110,111,110,101] from g1)]
  rw[if_neg g1,if_neg (show ¬lowM v=[110,111,110,101] from g1)]
  by_cases g2:lowM v=kStrict
  ·rw[if_pos g2,if_pos (show lowM v=[115,116,114,105,99,116] from g2)]
  rw[if_neg g2,if_neg (show ¬lowM v=[115,116,114,105,99,116] from g2)]
 rw[if_neg e5,if_neg (show ¬lowM k=[115,97,109,101,115,105,116,101] from e5)]
end Go.VM.T
namespace Go.VM.T
open Go Go.VM
theorem bkc {c:TCookie} (B:BK c):BC c:=⟨Nat.le_trans B.name bo%,Nat.le_trans B.val bo%,Nat.le_trans B.dom bo%⟩
theorem getD_at {ps:List Bs} {i:Nat} {p:Bs} (h:ps[i]? = some p):ps.getD ((i:Int)).toNat ([]:Bs)=p:=by
 rw[List.getD_eq_getElem?_getD,Int.toNat_natCast,h];rfl
theorem nv_len (p:Bs):(nvM p).1.length≤p.length∧(nvM p).2.length≤p.length:=⟨Nat.le_trans (trimS_len _) (cut1_len2 61 p).1,Nat.le_trans (trimS_len _) (cut1_len2 61 p).2⟩
theorem go_impl {n:Nat} (hn:4194304+32≤n) {ps:List Bs} {u:TUrl} {host:Bs} (hps:∀p∈ps,p.length≤200) (hl:ps.length≤1000) (hh:host.length≤1000) {now:Int} (h0:0≤now) (h1:now≤1000000) :
  ∀(rest:List Bs) (i k:Nat) (c:TCookie),ps.drop i=rest→1≤i→i≤ps.length→BK c→rest.length<k →
   loopR (mi_CookieGet.l0 n (ps,()) now (host,()) u) k ((i:Int),c,())=some ((endM u.1 host (rest.foldl (stepC now) c)).1,(endM u.1 host (rest.foldl (stepC now) c)).2,())
 | rest,i,0,c,_,_,_,_,hk=>absurd hk (Nat.not_lt_zero _)
 | [],i,k+1,c,hd,hi,hle,B,hk=>by
  have hil:=at_nil hle hd
  have b1:=B.name
  have b2:=B.val
  have b3:=B.dom
  rw[loopR]
  generalize hG:loopR (mi_CookieGet.l0 n (ps,()) now (host,()) u) k=G
  unfold mi_CookieGet.l0
  dsimp only
  rw[bif_dec,if_neg bo%]
  simp only[isToken_ok (n:=n) (s:=c.1) bo% bo%,isToken_ok (n:=n) (s:=c.2.1) bo% bo%,impl_DomainIn_ok (n:=n) (h:=host) (d:=c.2.2.1) bo% bo% bo%,impl_labels_ok (n:=n) (s:=c.2.2.1) bo% bo%,prefixOk_ok (n:=n) (c:=c) bo%,impl_CookieOk_ok (n:=n) bo% (bkc B),Option.bind_some,List.foldl_nil]
  unfold endM
  generalize tokM c.1=t1
  generalize tokM c.2.1=t2
  generalize (c.1==([]:Bs))=e
  generalize domM host c.2.2.1=d
  generalize decide (((labelsM c.2.2.1).length:Int)<2)=l
  generalize (u.1==([104,116,116,112,115]:Bs))=hs
  generalize decide (c.2.2.2.2.2.2.2.1=0)=s0
  generalize prefM c=pr
  generalize okCookie c=ok
  generalize c.2.2.2.1=al
  generalize c.2.2.2.2.2.2.1=sf
  cases t1 with
  | false=>rfl
  | true=>cases t2 with
   | false=>rfl
   | true=>cases e with
    | true=>rfl
    | false=>cases al <;> cases d <;> cases l <;> cases sf <;> cases hs <;> cases s0 <;> cases pr <;> cases ok <;> rfl
 | p :: l,i,k+1,c,hd,hi,hle,B,hk=>by
  obtain ⟨hlt,hx,hd2⟩:=at_cons hd
  have hp:=hps p (List.mem_of_getElem? hx)
  have hnv:(trimS (cut1 61 p).1).length≤p.length∧(trimS ((cut1 61 p).2.getD [])).length≤p.length:=nv_len p
  have hc1:=cut1_len 61 p
  rw[loopR]
  generalize hG:loopR (mi_CookieGet.l0 n (ps,()) now (host,()) u) k=G
  unfold mi_CookieGet.l0
  dsimp only
  rw[bif_dec,if_pos bo%,grd_dec,if_pos bo%,grd_dec,if_pos bo%,getD_at hx,strings_Cut_ok bo% bo%,Option.bind_some]
  dsimp only
  rw[Trim_ok bo% bo%,Option.bind_some,Trim_ok bo% bo%,Option.bind_some,bif_dec,if_neg bo%]
  dsimp only
  rw[impl_Lower_ok bo% (Nat.le_trans hnv.1 bo%),Option.bind_some]
  dsimp only
  rw[set_ok bo% c (Nat.le_trans hnv.2 bo%) h0 h1,Option.bind_some,w_i bo%]
  rw[←hG]
  exact go_impl hn hps hl hh h0 h1 l (i+1) k (stepC now c p) hd2 bo% bo% (part_bk B now (Nat.le_trans hnv.2 bo%)) (by simp at hk;omega)
theorem go_spec {n:Nat} (hn:4194304+32≤n) {ps:List Bs} {u:TUrl} {host:Bs} (hps:∀p∈ps,p.length≤200) (hl:ps.length≤1000) (hh:host.length≤1000) {now:Int} (h0:0≤now) (h1:now≤1000000) :
  ∀(rest:List Bs) (i k:Nat) (c:TCookie),ps.drop i=rest→1≤i→i≤ps.length→BK c→rest.length<k →
   loopR (ms_CookieGet.l0 n (ps,()) now (host,()) u) k ((i:Int),c,())=some ((endM u.1 host (rest.foldl (stepC now) c)).1,(endM u.1 host (rest.foldl (stepC now) c)).2,())
 | rest,i,0,c,_,_,_,_,hk=>absurd hk (Nat.not_lt_zero _)
 | [],i,k+1,c,hd,hi,hle,B,hk=>by
  have hil:=at_nil hle hd
  have b1:=B.name
  have b2:=B.val
  have b3:=B.dom
  rw[loopR]
  generalize hG:loopR (ms_CookieGet.l0 n (ps,()) now (host,()) u) k=G
  unfold ms_CookieGet.l0
  dsimp only
  rw[bif_dec,if_neg bo%]
  simp only[l7Crumb_ok (n:=n) (s:=c.1) bo% bo%,l7Crumb_ok (n:=n) (s:=c.2.1) bo% bo%,spec_DomainIn_ok (n:=n) (h:=host) (d:=c.2.2.1) bo% bo% bo%,spec_l2Parts_ok (n:=n) (s:=c.2.2.1) bo% bo%,l7Prefix_ok (n:=n) (c:=c) bo%,spec_CookieOk_ok (n:=n) bo% (bkc B),Option.bind_some,List.foldl_nil]
  unfold endM
  generalize tokM c.1=t1
  generalize tokM c.2.1=t2
  generalize (c.1==([]:Bs))=e
  generalize domM host c.2.2.1=d
  generalize decide (((labelsM c.2.2.1).length:Int)<2)=l
  generalize (u.1==([104,116,116,112,115]:Bs))=hs
  generalize decide (c.2.2.2.2.2.2.2.1=0)=s0
  generalize prefM c=pr
  generalize okCookie c=ok
  generalize c.2.2.2.1=al
  generalize c.2.2.2.2.2.2.1=sf
  cases t1 with
  | false=>cases e <;> rfl
  | true=>cases t2 with
   | false=>cases e <;> rfl
   | true=>cases e with
    | true=>rfl
    | false=>cases al <;> cases d <;> cases l <;> cases sf <;> cases hs <;> cases s0 <;> cases pr <;> cases ok <;> rfl
 | p :: l,i,k+1,c,hd,hi,hle,B,hk=>by
  obtain ⟨hlt,hx,hd2⟩:=at_cons hd
  have hp:=hps p (List.mem_of_getElem? hx)
  have hnv:=nv_len p
  rw[loopR]
  generalize hG:loopR (ms_CookieGet.l0 n (ps,()) now (host,()) u) k=G
  unfold ms_CookieGet.l0
  dsimp only
  rw[bif_dec,if_pos bo%,grd_dec,if_pos bo%,grd_dec,if_pos bo%,getD_at hx,l7Pair_ok bo% bo%,Option.bind_some]
  dsimp only
  rw[l7Part_ok bo% c (Nat.le_trans hnv.1 bo%) (Nat.le_trans hnv.2 bo%) h0 h1,Option.bind_some,w_i bo%]
  rw[←hG]
  exact go_spec hn hps hl hh h0 h1 l (i+1) k (stepC now c p) hd2 bo% bo% (part_bk B now (Nat.le_trans hnv.2 bo%)) (by simp at hk;omega)
def getU (u:TUrl) (t:Bs) (now:Int):TCookie×Int:=cookieM (okU u) u.2.2.2.1.1 u.1 (putH u.2.2.2.1) (pathOfM u) t now
theorem start_bk {host path:Bs} {now:Int} {p:Bs} (hp:p.length≤200) (hh:host.length≤1000):BK (startC host path now p) :=
 ⟨Nat.le_trans (nv_len p).1 bo%,Nat.le_trans (nv_len p).2 bo%,hh⟩
theorem parts_of {t:Bs} (ht:t.length≤200):∃p l,cutM 59 t=p :: l∧(∀q∈cutM 59 t,q.length≤200)∧(cutM 59 t).length≤1000:=by
 have h1:=cut_len_pos 59 t
 have h2:=cutM_len 59 t
 cases h:cutM 59 t with
 | nil=>rw[h] at h1;simp at h1
 | cons p l=>exact ⟨p,l,rfl,fun q hq=>Nat.le_trans (cutM_sub 59 t q (h ▸ hq)) ht,by rw[←h];omega⟩
theorem impl_CookieGet_ok {n:Nat} (hn:4194304+34≤n) {u:TUrl} (hu:BU u) (t:Bs) (now:Int):ci_CookieGet n u t now=some ((getU u t now).1,(getU u t now).2,()):=by
 obtain ⟨m,rfl⟩:=sn hn
 rw[ei_CookieGet];unfold mi_CookieGet getU cookieM
 rw[impl_UrlOk_ok bo% hu,Option.bind_some]
 dsimp only
 cases okU u with
 | false=>rfl
 | true =>
 cases decide (u.2.2.2.1.1=0) with
 | true=>rfl
 | false =>
 simp only[Bool.not_true,cond_false,Bool.false_or]
 cases hlen:decide ((200:Int)<(t.length:Int)) with
 | true=>simp only[cond_true,Bool.or_true];rfl
 | false =>
 have ht:t.length≤200:=by have:=of_decide_eq_false hlen;omega
 simp only[cond_false,Bool.or_false]
 rw[impl_in_ok bo%,Option.bind_some]
 dsimp only
 cases hin:decide (0≤now∧now≤1000000) with
 | false=>rfl
 | true =>
 obtain ⟨h0,h1⟩:=of_decide_eq_true hin
 simp only[Bool.not_true,cond_false]
 have hh:=putH_short u.2.2.2.1
 obtain ⟨p,l,hps,hq,hl⟩:=parts_of ht
 rw[impl_HostPut_ok (n:=m) (h:=u.2.2.2.1) bo% (host_b hu),Option.bind_some,impl_PathOf_ok bo% hu,Option.bind_some,strings_Split_ok bo% bo%,Option.bind_some]
 dsimp only
 have hx:(cutM 59 t)[0]? = some p:=by rw[hps];rfl
 have hp:=hq p (List.mem_of_getElem? hx)
 have hnv:=nv_len p
 have hc1:=cut1_len 61 p
 obtain ⟨k,rfl⟩:∃k,m=k+1:=⟨m-1,by omega⟩
 unfold getC
 rw[show loopR (mi_CookieGet.l0 (k+1) (cutM 59 t,()) now (putH u.2.2.2.1,()) u) (k+1)=mi_CookieGet.l0 (k+1) (cutM 59 t,()) now (putH u.2.2.2.1,()) u (loopR (mi_CookieGet.l0 (k+1) (cutM 59 t,()) now (putH u.2.2.2.1,()) u) k) from rfl]
 generalize hG:loopR (mi_CookieGet.l0 (k+1) (cutM 59 t,()) now (putH u.2.2.2.1,()) u) k=G
 unfold mi_CookieGet.l0
 dsimp only
 have hpos:0<(cutM 59 t).length:=by rw[hps];simp
 have hg:=getD_at hx
 rw[show ((0:Nat):Int)=0 from rfl] at hg
 rw[bif_dec,if_pos bo%,grd_dec,if_pos bo%,grd_dec,if_pos bo%,hg,strings_Cut_ok bo% bo%,Option.bind_some]
 dsimp only
 rw[Trim_ok bo% bo%,Option.bind_some,Trim_ok bo% bo%,Option.bind_some,bif_dec,if_pos rfl]
 have hw:IntKind.i64.wrap ((0:Int)+1)=((1:Nat):Int):=w64 bo% bo%
 rw[hw,←hG]
 have key:=go_impl (n:=k+1) (ps:=cutM 59 t) (u:=u) (host:=putH u.2.2.2.1) bo% hq hl bo% h0 h1 l 1 k (startC (putH u.2.2.2.1) (pathOfM u) now p) (by rw[hps];rfl) bo% bo% (start_bk hp bo%) (by rw[hps] at hl;simp at hl;omega)
 rw[hps] at key ⊢
 exact key
theorem spec_CookieGet_ok {n:Nat} (hn:4194304+34≤n) {u:TUrl} (hu:BU u) (t:Bs) (now:Int):cs_CookieGet n u t now=some ((getU u t now).1,(getU u t now).2,()):=by
 obtain ⟨m,rfl⟩:=sn hn
 rw[es_CookieGet];unfold ms_CookieGet getU cookieM
 rw[spec_UrlOk_ok bo% hu,Option.bind_some]
 dsimp only
 cases okU u with
 | false=>rfl
 | true =>
 cases decide (u.2.2.2.1.1=0) with
 | true=>rfl
 | false =>
 simp only[Bool.not_true,cond_false,Bool.false_or]
 rw[spec_l1In_ok bo%,Option.bind_some]
 dsimp only
 cases hin:decide (0≤now∧now≤1000000) with
 | false=>rfl
 | true =>
 obtain ⟨h0,h1⟩:=of_decide_eq_true hin
 simp only[Bool.not_true,cond_false,Bool.false_or]
 cases hlen:decide ((200:Int)<(t.length:Int)) with
 | true=>rfl
 | false =>
 have ht:t.length≤200:=by have:=of_decide_eq_false hlen;omega
 simp only[cond_false]
 have hh:=putH_short u.2.2.2.1
 obtain ⟨p,l,hps,hq,hl⟩:=parts_of ht
 have h59:cs_l7Cut m t 59=some (cutM 59 t,()):=l7Cut_ok (n:=m) bo% bo% 59
 rw[h59,Option.bind_some,spec_HostPut_ok (n:=m) (h:=u.2.2.2.1) bo% (host_b hu),Option.bind_some,spec_PathOf_ok bo% hu,Option.bind_some]
 dsimp only
 have hx:(cutM 59 t)[0]? = some p:=by rw[hps];rfl
 have hp:=hq p (List.mem_of_getElem? hx)
 have hpos:0<(cutM 59 t).length:=by rw[hps];simp
 have hg:=getD_at hx
 rw[show ((0:Nat):Int)=0 from rfl] at hg
 rw[grd_dec,if_pos bo%,grd_dec,if_pos bo%,hg,l7Pair_ok bo% bo%,Option.bind_some]
 unfold getC
 have key:=go_spec (n:=m) (ps:=cutM 59 t) (u:=u) (host:=putH u.2.2.2.1) bo% hq hl bo% h0 h1 l 1 m (startC (putH u.2.2.2.1) (pathOfM u) now p) (by rw[hps];rfl) bo% bo% (start_bk hp bo%) (by rw[hps] at hl;simp at hl;omega)
 rw[hps] at key ⊢
 exact key
theorem getU_bk {u:TUrl} (t:Bs) (now:Int):BK (getU u t now).1:=by
 unfold getU cookieM
 cases h:(!okU u||(decide (u.2.2.2.1.1=0)||(!decide (0≤now∧now≤1000000)||decide ((200:Int)<(t.length:Int))))) with
 | true=>exact null_bk
 | false =>
  simp only[Bool.or_eq_false_iff] at h
  have ht:t.length≤200:=by have:=of_decide_eq_false h.2.2.2;omega
  obtain ⟨p,l,hps,hq,hl⟩:=parts_of ht
  have hh:=putH_short u.2.2.2.1
  refine end_bk (fold_bk now (start_bk ?_ bo%) fun q hq2=>?_)
  ·rw[hps];exact hq p (by rw[hps];simp)
  ·rw[hps] at hq2
   exact Nat.le_trans (hq q (by rw[hps];simp at hq2 ⊢;exact .inr hq2)) bo%
theorem getU_zero {u:TUrl} {t:Bs} {now:Int} (h:(getU u t now).2=0):okU u=true∧decide (u.2.2.2.1.1=0)=false∧okCookie (getU u t now).1=true∧(getU u t now).1.2.2.2.2.2.2.2.2.1=now ∧
  ((getU u t now).1.2.2.2.1=true→(getU u t now).1.2.2.1=putH u.2.2.2.1)∧((getU u t now).1.2.2.2.1=false→domM (putH u.2.2.2.1) (getU u t now).1.2.2.1=true∧2≤(labelsM (getU u t now).1.2.2.1).length) ∧
  ((getU u t now).1.2.2.2.2.2.2.1=true→(u.1==httpsB)=true)∧(0≤now∧now≤1000000):=by
 unfold getU cookieM at h ⊢
 cases hb:(!okU u||(decide (u.2.2.2.1.1=0)||(!decide (0≤now∧now≤1000000)||decide ((200:Int)<(t.length:Int))))) with
 | true=>rw[hb] at h;cases h
 | false =>
  rw[hb] at h
  simp only[cond_false] at h ⊢
  simp only[Bool.or_eq_false_iff,Bool.not_eq_false'] at hb
  unfold getC at h ⊢
  obtain ⟨e1,e2,e3,e4⟩:=end_zero h
  obtain ⟨f1,f2⟩:=fold_keep now (cutM 59 t).tail (startC (putH u.2.2.2.1) (pathOfM u) now ((cutM 59 t).headD []))
  rw[e1]
  exact ⟨hb.1,hb.2.1,e2,f1,fun ha=>(f2 ha).2,e3,e4,of_decide_eq_true hb.2.2.1⟩
end Go.VM.T
