/- The plain law: what the models compute answers as the statement says. -/
import Derived.Test.YtbpkjhlbfjofhaaGreatDoorS7
local macro "bo%" : term => `(by omega)
set_option linter.unusedVariables false
set_option linter.unusedSimpArgs false
namespace Go.VM.T
open Go Go.VM
structure BS (l:List Bs):Prop where
 len:l.length≤1100000
 el:∀s∈l,s.length≤1100000
theorem BS.get {l:List Bs} (B:BS l) {i:Nat} {c:Bs} (h:l[i]? = some c):c.length≤1100000:=B.el c (List.mem_of_getElem? h)
def prevS (l:List Bs) (i:Nat):Option Bs:=if i=0 then none else l[i-1]?
theorem prev_next {l:List Bs} {i:Nat} {c:Bs} (h:l[i]? = some c):prevS l (i+1)=some c:=by
 unfold prevS;rw[if_neg bo%,Nat.add_sub_cancel];exact h
theorem spec_SureOk_ok {n:Nat} (hn:4194304+8≤n) {l:List Bs} (B:BS l):cs_SureOk n (l,())=some (okSure l,()):=by
 obtain ⟨m,rfl⟩:=sn hn
 rw[es_SureOk];unfold ms_SureOk
 have hlen:=B.len
 refine loopS l (fun L i st r=>r=(okSure l,())∧st=((i:Int),())∧okSure l=(upGo nameOk id (prevS l i) L&&decide (l.length≤6))) ?_ ?_ ⟨rfl,rfl,rfl⟩ bo%
 ·rintro st r self ⟨rfl,rfl,e⟩
  unfold ms_SureOk.l0
  simp only[bif_dec]
  rw[if_neg bo%,e]
  simp only[upGo,Bool.true_and]
  congr 2
  rw[decide_eq_decide];omega
 ·rintro c L i st r self _ hi hx ⟨rfl,rfl,e⟩ ih
  unfold ms_SureOk.l0
  have k1:(0:Int)≤(i:Int):=by omega
  have k2:(i:Int)<(l.length:Int):=by omega
  simp only[bif_dec,grd_dec,Int.toNat_natCast,getD_get [] hx,k1,k2,if_true,l7Name_ok (n:=m) (s:=c) bo% (by have:=B.get hx;omega),Option.bind_some]
  simp only[upGo,id] at e
  cases hc:nameOk c with
  | false=>rw[hc] at e;rw[e];rfl
  | true =>
  rw[hc] at e
  simp only[Bool.not_true,cond_false,Bool.true_and] at e ⊢
  by_cases hz:i=0
  ·rw[if_neg bo%,w_i bo%]
   refine ih _ ⟨rfl,rfl,?_⟩
   rw[prev_next hx,e]
   simp[prevS,hz]
  ·obtain ⟨p,hp⟩:∃p,l[i-1]? = some p:=⟨_,List.getElem?_eq_getElem bo%⟩
   have hw:IntKind.i64.wrap ((i:Int)-1)=((i-1:Nat):Int):=by rw[w64 bo% bo%];omega
   have k3:(0:Int)≤((i-1:Nat):Int):=by omega
   have k4:((i-1:Nat):Int)<(l.length:Int):=by omega
   rw[if_pos bo%]
   simp only[hw,k3,k4,if_true,Int.toNat_natCast,getD_get [] hp]
   have hpr:prevS l i=some p:=by unfold prevS;rw[if_neg hz];exact hp
   rw[hpr] at e
   simp only at e
   cases hb:bless p c with
   | false=>rw[hb] at e;rw[e];rfl
   | true =>
    rw[hb] at e
    simp only[Bool.not_true,cond_false,Bool.true_and,w_i (show i≤4000000 by omega)] at e ⊢
    exact ih _ ⟨rfl,rfl,by rw[prev_next hx,e]⟩
theorem impl_SureOk_ok {n:Nat} (hn:4194304+8≤n) {l:List Bs} (B:BS l):ci_SureOk n (l,())=some (okSure l,()):=by
 obtain ⟨m,rfl⟩:=sn hn
 rw[ei_SureOk];unfold mi_SureOk
 have hlen:=B.len
 refine loopS l (fun L i st r=>r=(okSure l,())∧st=((i:Int),())∧okSure l=(upGo nameOk id (prevS l i) L&&decide (l.length≤6))) ?_ ?_ ⟨rfl,rfl,rfl⟩ bo%
 ·rintro st r self ⟨rfl,rfl,e⟩
  unfold mi_SureOk.l0
  simp only[bif_dec]
  rw[if_neg bo%,e]
  simp only[upGo,Bool.true_and]
  congr 2
  rw[decide_eq_decide];omega
 ·rintro c L i st r self _ hi hx ⟨rfl,rfl,e⟩ ih
  unfold mi_SureOk.l0
  have k1:(0:Int)≤(i:Int):=by omega
  have k2:(i:Int)<(l.length:Int):=by omega
  simp only[bif_dec,grd_dec,Int.toNat_natCast,getD_get [] hx,k1,k2,if_true,plainName_ok (n:=m) (s:=c) bo% (by have:=B.get hx;omega),Option.bind_some]
  simp only[upGo,id] at e
  cases hc:nameOk c with
  | false=>rw[hc] at e;rw[e];rfl
  | true =>
  rw[hc] at e
  simp only[Bool.not_true,cond_false,Bool.true_and] at e ⊢
  by_cases hz:i=0
  ·rw[if_neg bo%,w_i bo%]
   refine ih _ ⟨rfl,rfl,?_⟩
   rw[prev_next hx,e]
   simp[prevS,hz]
  ·obtain ⟨p,hp⟩:∃p,l[i-1]? = some p:=⟨_,List.getElem?_eq_getElem bo%⟩
   have hw:IntKind.i64.wrap ((i:Int)-1)=((i-1:Nat):Int):=by rw[w64 bo% bo%];omega
   have k3:(0:Int)≤((i-1:Nat):Int):=by omega
   have k4:((i-1:Nat):Int)<(l.length:Int):=by omega
   rw[if_pos bo%]
   simp only[hw,k3,k4,if_true,Int.toNat_natCast,getD_get [] hp,bless_le]
   have hpr:prevS l i=some p:=by unfold prevS;rw[if_neg hz];exact hp
   rw[hpr] at e
   simp only at e
   cases hb:bless p c with
   | false=>rw[hb] at e;rw[e];rfl
   | true =>
    rw[hb] at e
    simp only[Bool.not_true,cond_false,Bool.true_and,w_i (show i≤4000000 by omega)] at e ⊢
    exact ih _ ⟨rfl,rfl,by rw[prev_next hx,e]⟩
def SmU (u:TUrl):Prop:=szU u≤1900000∧u.2.2.2.2.1≤9223372036854775807
theorem SmU.bu {u:TUrl} (h:SmU u):BU u:=⟨by have:=h.1;omega,by have:=h.2;omega⟩
theorem safe_bu {u:TUrl} (h:SmU u):BU (safeU u):=by
 have h1:=h.1
 have h2:=h.2
 refine ⟨?_,?_⟩
 ·unfold szU at h1 ⊢
  simp only[safeU,httpsB,List.length_cons,List.length_nil]
  omega
 ·simp only[safeU]
  split <;> omega
theorem upgrade1_ok {n:Nat} (hn:4194304+23≤n) {d:Bs} {u:TUrl} (hu:SmU u) (hd:d.length≤1100000):ci_Sure_upgrade_1 n d u=some (domM (putH u.2.2.2.1) d,()):=by
 obtain ⟨m,rfl⟩:=sn hn
 have hz:szU u≤2000000:=by have:=hu.1;omega
 rw[ei_Sure_upgrade_1];unfold mi_Sure_upgrade_1
 rw[impl_HostPut_ok bo% (host_b hu.bu),Option.bind_some,impl_DomainIn_ok bo% (putH_b hz) bo%]
 rfl
theorem upM_cases (l:List Bs) (u:TUrl):upM l u=(bif (u.1==httpB) then (bif (l.any fun d=>domM (putH u.2.2.2.1) d) then (bif okU (safeU u) then safeU u else u) else u) else u):=by
 unfold upM
 by_cases h1:u.1=httpB
 ·have e:(u.1==httpB)=true:=by simpa using h1
  rw[e]
  cases l.any fun d=>domM (putH u.2.2.2.1) d <;> cases okU (safeU u) <;> simp[h1]
 ·have e:(u.1==httpB)=false:=by simpa using h1
  rw[e,if_neg (fun h=>h1 h.1)];rfl
theorem upgrade_ok {n:Nat} (hn:4194304+31≤n) {l:List Bs} {u:TUrl} (B:BS l) (hu:SmU u):ci_Sure_upgrade n (l,()) u=some (upM l u,()):=by
 obtain ⟨m,rfl⟩:=sn hn
 have hlen:=B.len
 have hs:=safe_bu hu
 rw[ei_Sure_upgrade];unfold mi_Sure_upgrade
 simp only[impl_copyOf_ok (n:=m) (u:=u) bo% (BU_path4 hu.bu),Option.bind_some]
 rw[upM_cases]
 change (bif !(u.1==httpB) then _ else _)=_
 cases u.1==httpB with
 | false=>rfl
 | true =>
 simp only[Bool.not_true,cond_false,cond_true]
 rw[grd_dec,if_pos bo%,idxM_all (f:=fun d=>domM (putH u.2.2.2.1) d) (fun z hz=>by rw[upgrade1_ok bo% hu (B.el z hz)];rfl)]
 simp only[Option.bind_some,List.findIdx?_isSome]
 cases l.any fun d=>domM (putH u.2.2.2.1) d with
 | false=>rfl
 | true =>
 simp only[Bool.not_true,cond_false,cond_true,bif_dec]
 by_cases h443:u.2.2.2.2.1=443
 ·have e:safeU u=(httpsB,u.2.1,u.2.2.1,u.2.2.2.1,-1,u.2.2.2.2.2.1,u.2.2.2.2.2.2):=by unfold safeU;rw[if_pos h443]
  rw[if_pos h443]
  rw[e] at hs ⊢
  have:=impl_UrlOk_ok (n:=m) bo% hs
  refine (?_:(ci_UrlOk m (httpsB,u.2.1,u.2.2.1,u.2.2.2.1,-1,u.2.2.2.2.2.1,u.2.2.2.2.2.2)).bind _=_)
  rw[this]
  simp only[Option.bind_some]
  cases okU (httpsB,u.2.1,u.2.2.1,u.2.2.2.1,-1,u.2.2.2.2.2.1,u.2.2.2.2.2.2) <;> rfl
 ·have e:safeU u=(httpsB,u.2.1,u.2.2.1,u.2.2.2.1,u.2.2.2.2.1,u.2.2.2.2.2.1,u.2.2.2.2.2.2):=by unfold safeU;rw[if_neg h443]
  rw[if_neg h443]
  rw[e] at hs ⊢
  have:=impl_UrlOk_ok (n:=m) bo% hs
  refine (?_:(ci_UrlOk m (httpsB,u.2.1,u.2.2.1,u.2.2.2.1,u.2.2.2.2.1,u.2.2.2.2.2.1,u.2.2.2.2.2.2)).bind _=_)
  rw[this]
  simp only[Option.bind_some]
  cases okU (httpsB,u.2.1,u.2.2.1,u.2.2.2.1,u.2.2.2.2.1,u.2.2.2.2.2.1,u.2.2.2.2.2.2) <;> rfl
theorem impl_SureUrl_ok {n:Nat} (hn:4194304+32≤n) {l:List Bs} {u:TUrl} (B:BS l) (hu:SmU u):ci_SureUrl n (l,()) u=some (sureU l u,()):=by
 obtain ⟨m,rfl⟩:=sn hn
 rw[ei_SureUrl];unfold mi_SureUrl sureU
 simp only[impl_SureOk_ok (n:=m) bo% B,impl_UrlOk_ok (n:=m) bo% hu.bu,upgrade_ok (n:=m) bo% B hu,Option.bind_some]
 cases okSure l <;> cases okU u <;> rfl
theorem l8Sure_ok {n:Nat} (hn:4194304+23≤n) {l:List Bs} {u:TUrl} (B:BS l) (hu:SmU u):cs_l8Sure n (l,()) u=some (l.any fun d=>domM (putH u.2.2.2.1) d,()):=by
 obtain ⟨m,rfl⟩:=sn hn
 have hz:szU u≤2000000:=by have:=hu.1;omega
 rw[es_l8Sure];unfold ms_l8Sure
 have hlen:=B.len
 refine loopS l (fun L i st r=>r=(l.any fun d=>domM (putH u.2.2.2.1) d,())∧st=((i:Int),())∧(l.any fun d=>domM (putH u.2.2.2.1) d)=L.any fun d=>domM (putH u.2.2.2.1) d) ?_ ?_ ⟨rfl,rfl,rfl⟩ bo%
 ·rintro st r self ⟨rfl,rfl,e⟩
  unfold ms_l8Sure.l0
  simp only[bif_dec]
  rw[if_neg bo%,e];rfl
 ·rintro c L i st r self _ hi hx ⟨rfl,rfl,e⟩ ih
  unfold ms_l8Sure.l0
  have k1:(0:Int)≤(i:Int):=by omega
  have k2:(i:Int)<(l.length:Int):=by omega
  simp only[bif_dec,grd_dec,Int.toNat_natCast,getD_get [] hx,k1,k2,if_true,spec_HostPut_ok (n:=m) (h:=u.2.2.2.1) bo% (host_b hu.bu),spec_DomainIn_ok (n:=m) (d:=c) bo% (putH_b hz) (by have:=B.get hx;omega),Option.bind_some]
  rw[List.any_cons] at e
  cases hd:domM (putH u.2.2.2.1) c with
  | true=>rw[hd] at e;rw[e];rfl
  | false =>
   rw[hd,Bool.false_or] at e
   simp only[cond_false,w_i (show i≤4000000 by omega)]
   exact ih _ ⟨rfl,rfl,e⟩
theorem l8Copy_ok {n:Nat} (hn:4194304+1≤n) {u:TUrl} (hu:BU u):cs_l8Copy n u=some (u,()):=by
 obtain ⟨m,rfl⟩:=sn hn
 rw[es_l8Copy];unfold ms_l8Copy
 rw[grd_dec,if_pos (ap_le (by have:=BU_path4 hu;simp;omega))];rfl
theorem l8Safe_ok {n:Nat} (hn:4194304+1≤n) (u:TUrl):cs_l8Safe n u=some (safeU u,()):=by
 obtain ⟨m,rfl⟩:=sn hn
 rw[es_l8Safe];unfold ms_l8Safe safeU
 rw[bif_dec]
 split <;> rfl
theorem spec_SureUrl_ok {n:Nat} (hn:4194304+32≤n) {l:List Bs} {u:TUrl} (B:BS l) (hu:SmU u):cs_SureUrl n (l,()) u=some (sureU l u,()):=by
 obtain ⟨m,rfl⟩:=sn hn
 rw[es_SureUrl];unfold ms_SureUrl sureU
 simp only[spec_SureOk_ok (n:=m) bo% B,spec_UrlOk_ok (n:=m) bo% hu.bu,l8Sure_ok (n:=m) bo% B hu,l8Copy_ok (n:=m) bo% hu.bu,l8Safe_ok (n:=m) bo%,spec_UrlOk_ok (n:=m) bo% (safe_bu hu),Option.bind_some]
 rw[upM_cases]
 change (bif !okSure l then _ else bif !okU u then _ else bif !(u.1==httpB) then _ else _)=_
 cases okSure l <;> cases okU u <;> cases (u.1==httpB) <;> cases (l.any fun d=>domM (putH u.2.2.2.1) d) <;> cases okU (safeU u) <;> rfl
end Go.VM.T
namespace Go.VM.T
open Go Go.VM
theorem str1 (x:Int):(strOf [x]).length=1:=rfl
theorem mark_go:∀(k:Nat) (out:Bs),out.length+k≤90000000→∃t:Bs,∀(n m:Nat),k<2 ^ m→loopR (ml_markText.l0 n) (m+1) ((k:Int),out,())=some (t,())
 | 0,out,ho=>by
  refine ⟨[109]++out,fun n m hm=>?_⟩
  show ml_markText.l0 n (loopR (ml_markText.l0 n) m) _=_
  generalize loopR (ml_markText.l0 n) m=G
  unfold ml_markText.l0
  simp only[bif_dec,grd_dec]
  rw[if_neg bo%,if_pos (by simp;omega)]
 | k+1,out,ho=>by
  obtain ⟨t,ht⟩:=mark_go ((k+1) / 10) ((strOf ([(IntKind.u8.wrap (IntKind.i64.wrap ((48:Int)+(((k+1:Nat):Int).tmod (10:Int)))))]:List Int))++out) (by rw[List.length_append,str1];omega)
  refine ⟨t,fun n m hm=>?_⟩
  obtain ⟨m,rfl⟩:∃j,m=j+1:=⟨m-1,by cases m with | zero=>simp at hm | succ m=>rfl⟩
  have hp:(2:Nat) ^ (m+1)=2 ^ m*2:=Nat.pow_succ ..
  rw[hp] at hm
  show ml_markText.l0 n (loopR (ml_markText.l0 n) (m+1)) _=_
  have h:=ht n m bo%
  generalize loopR (ml_markText.l0 n) (m+1)=G at h
  unfold ml_markText.l0
  have hd:((k+1:Nat):Int).tdiv 10=(((k+1) / 10:Nat):Int):=by rw[Int.tdiv_eq_ediv_of_nonneg bo%];omega
  have hw:IntKind.i64.wrap ((((k+1) / 10:Nat):Int))=(((k+1) / 10:Nat):Int):=w64 bo% bo%
  simp only[bif_dec,grd_dec,grd_ndec]
  rw[if_pos bo%,if_neg bo%,if_pos (by rw[str1];omega),if_neg bo%,hd,hw]
  exact h
theorem markT (k:Nat):∃t:Bs,k≤80000000→∀n,4194304+1≤n→cl_markText n (k:Int)=some (t,()):=by
 by_cases hk:k≤80000000
 case neg=>exact ⟨[],fun h=>absurd h hk⟩
 cases k with
 | zero =>
  refine ⟨[109,48],fun _ n hn=>?_⟩
  obtain ⟨m,rfl⟩:=sn hn
  rw[el_markText];unfold ml_markText
  rw[bif_dec,if_pos bo%]
 | succ k =>
  obtain ⟨t,ht⟩:=mark_go (k+1) [] (by simp;omega)
  refine ⟨t,fun _ n hn=>?_⟩
  obtain ⟨m,rfl⟩:=sn hn
  rw[el_markText];unfold ml_markText
  rw[bif_dec,if_neg bo%]
  obtain ⟨j,rfl⟩:∃j,m=j+1:=⟨m-1,by omega⟩
  exact ht _ j (Nat.lt_of_lt_of_le (show k+1<2 ^ 27 by omega) (Nat.pow_le_pow_right bo% bo%))
noncomputable def mk (k:Nat):Bs:=(markT k).choose
theorem mk_ok {n:Nat} (hn:4194304+1≤n) {k:Nat} (hk:k≤80000000):cl_markText n (k:Int)=some (mk k,()):=(markT k).choose_spec hk n hn
noncomputable def marks:Nat→Nat→List Bs
 | _,0=>[]
 | k,m+1=>mk k :: marks (k+1) m
theorem marks_snoc:∀(m k:Nat),marks k (m+1)=marks k m++[mk (k+m)]
 | 0,k=>rfl
 | m+1,k=>by
  have:=marks_snoc m (k+1)
  show mk k :: marks (k+1) (m+1)=mk k :: marks (k+1) m++[mk (k+(m+1))]
  rw[this,show k+1+m=k+(m+1) by omega];rfl
theorem marks_len:∀(m k:Nat),(marks k m).length=m
 | 0,k=>rfl
 | m+1,k=>by rw[marks,List.length_cons,marks_len m]
theorem marks_get:∀(m k i:Nat),i<m→(marks k m)[i]? = some (mk (k+i))
 | m+1,k,0,_=>rfl
 | m+1,k,i+1,h=>by
  rw[marks,List.getElem?_cons_succ,marks_get m (k+1) i bo%,show k+1+i=k+(i+1) by omega]
theorem markS_ok {n:Nat} (hn:4194304+2≤n) {l:List Bs} (hl:l.length≤4000000) {k:Nat} (hk:k≤40000000):cl_markStringS n l (k:Int)=some (((k+l.length:Nat):Int),marks k l.length,()):=by
 obtain ⟨m,rfl⟩:=sn hn
 rw[el_markStringS];unfold ml_markStringS
 refine loopS l (fun r i st q=>st=(((k+i:Nat):Int),(i:Int),marks k i++r,())∧q=(((k+l.length:Nat):Int),marks k l.length,())) ?_ ?_ ⟨rfl,rfl⟩ bo%
 ·rintro st q self ⟨rfl,rfl⟩
  unfold ml_markStringS.l0
  simp only[bif_dec,List.append_nil,marks_len]
  rw[if_neg bo%]
 ·rintro x r i st q self hd hi hx ⟨rfl,rfl⟩ ih
  unfold ml_markStringS.l0
  have hlen:(marks k i++x :: r).length=l.length:=by
   have:=congrArg List.length hd
   rw[List.length_append,marks_len];simp at this ⊢;omega
  have hw:IntKind.i64.wrap (((k+i:Nat):Int)+1)=((k+(i+1):Nat):Int):=by rw[w64 bo% bo%];omega
  simp only[bif_dec,grd_dec,hlen,mk_ok (n:=m) bo% (show k+i≤80000000 by omega),Option.bind_some,Int.toNat_natCast,hw,w_i (show i≤4000000 by omega)]
  rw[if_pos bo%,if_pos bo%,if_pos bo%,if_pos hi]
  refine ih _ ⟨?_,rfl⟩
  rw[set_app _ _ _ _ i (marks_len _ _),marks_snoc];simp
theorem heldS_ok {n:Nat} (hn:4194304+2≤n) {z:Nat} (hl:z≤4000000) {k:Nat} (hk:k≤40000000):cl_heldStringS n (marks k z) (k:Int)=some (((k+z:Nat):Int),()):=by
 obtain ⟨m,rfl⟩:=sn hn
 rw[el_heldStringS];unfold ml_heldStringS
 have hz:=marks_len z k
 refine loopS (marks k z) (fun r i st q=>st=(((k+i:Nat):Int),(i:Int),())∧q=(((k+z:Nat):Int),())) ?_ ?_ ⟨rfl,rfl⟩ bo%
 ·rintro st q self ⟨rfl,rfl⟩
  unfold ml_heldStringS.l0
  simp only[bif_dec]
  rw[if_neg bo%,hz]
 ·rintro x r i st q self hd hi hx ⟨rfl,rfl⟩ ih
  have hx2:=marks_get z k i bo%
  rw[hx2] at hx
  obtain rfl:=Option.some.inj hx
  unfold ml_heldStringS.l0
  have hw:IntKind.i64.wrap (((k+i:Nat):Int)+1)=((k+(i+1):Nat):Int):=by rw[w64 bo% bo%];omega
  simp only[bif_dec,grd_dec,mk_ok (n:=m) bo% (show k+i≤80000000 by omega),Option.bind_some,Int.toNat_natCast,getD_get [] hx2,hw,w_i (show i≤4000000 by omega),beq_self_eq_true,Bool.not_true,cond_false]
  rw[if_pos bo%,if_pos bo%,if_pos bo%]
  exact ih _ ⟨rfl,rfl⟩
theorem markUrl_ok {n:Nat} (hn:4194304+3≤n) {u:TUrl} (hl:u.2.2.2.2.2.1.length≤4000000) {k:Nat} (hk:k≤40000000):cl_markUrl n u (k:Int)=some (((k+u.2.2.2.2.2.1.length:Nat):Int),marks k u.2.2.2.2.2.1.length,()):=by
 obtain ⟨m,rfl⟩:=sn hn
 rw[el_markUrl];unfold ml_markUrl
 rw[markS_ok bo% hl hk];rfl
theorem heldUrl_ok {n:Nat} (hn:4194304+3≤n) {u:TUrl} {z k:Nat} (hu:u.2.2.2.2.2.1=marks k z) (hl:z≤4000000) (hk:k≤40000000):cl_heldUrl n u (k:Int)=some (((k+z:Nat):Int),()):=by
 obtain ⟨m,rfl⟩:=sn hn
 rw[el_heldUrl];unfold ml_heldUrl
 rw[hu,heldS_ok bo% hl hk]
 simp only[Option.bind_some,bif_dec]
 rw[if_neg bo%]
end Go.VM.T
namespace Go.VM.T
open Go Go.VM
theorem sumL_mem:∀ {l:List Bs} {x:Bs},x∈l→x.length≤sumL l
 | y :: l,x,h=>by
  rcases List.mem_cons.1 h with rfl | h
  ·show _≤_+_;omega
  ·have:=sumL_mem h;show _≤_+_;omega
structure WS (l:List Bs):Prop where
 len:l.length≤big64
 el:∀x∈l,x.length≤big64
theorem WS_of {s:TSure} (h:Wf (.pair (.lst .str) .unit) s):WS s.1:=by
 obtain ⟨⟨h0,h1⟩,_⟩:=h
 exact ⟨h0,h1⟩
theorem szSure_ok {n:Nat} (hn:4194304+2≤n) {l:List Bs} (W:WS l):cl_szSure n (l,()) 1048576=some (leftM 1048576 (l.length+sumL l),()):=by
 obtain ⟨m,rfl⟩:=sn hn
 rw[el_szSure];unfold ml_szSure
 rw[szS_ok bo% W.len W.el bo% bo%]
 simp only[Option.bind_some,bif_dec]
 split
 ·rename_i h
  unfold leftM at h ⊢
  split at h
  ·omega
  ·rename_i h2;rw[if_neg h2]
 ·rfl
theorem toSure_ok {n:Nat} (hn:4194304+2≤n) {l:List Bs} (hl:l.length≤4000000):cl_toSure n (l,())=some ((l,()),()):=by
 obtain ⟨m,rfl⟩:=sn hn
 rw[el_toSure];unfold ml_toSure
 rw[toS_ok bo% hl];rfl
theorem eqSure_refl {n:Nat} (hn:4194304+2≤n) {l:List Bs} (hl:l.length≤4000000):cl_eqSure n (l,()) (l,())=some (true,()):=by
 obtain ⟨m,rfl⟩:=sn hn
 rw[el_eqSure];unfold ml_eqSure
 rw[eqS_ok bo% hl]
 simp
theorem markSure_ok {n:Nat} (hn:4194304+3≤n) {l:List Bs} (hl:l.length≤4000000) {k:Nat} (hk:k≤40000000):cl_markSure n (l,()) (k:Int)=some (((k+l.length:Nat):Int),marks k l.length,()):=by
 obtain ⟨m,rfl⟩:=sn hn
 rw[el_markSure];unfold ml_markSure
 rw[markS_ok bo% hl hk];rfl
theorem sureU_bu {l:List Bs} {u:TUrl} (hu:SmU u):BU (sureU l u):=by
 unfold sureU
 split
 ·rw[upM_cases]
  cases u.1==httpB <;> cases (l.any fun d=>domM (putH u.2.2.2.1) d) <;> cases okU (safeU u) <;> first | exact hu.bu | exact safe_bu hu
 ·exact ⟨by unfold urlZ hostZ szU;simp[pathM],by unfold urlZ;simp⟩
theorem law_SureUrl {n:Nat} (hn:4194304+40≤n) {s:TSure} {u:TUrl} (W:WS s.1) (U:WU u):cl_FnExactSureUrl n s u=some (true,()):=by
 obtain ⟨l,⟨⟩⟩:=s
 obtain ⟨m,rfl⟩:=sn hn
 rw[el_FnExactSureUrl];unfold ml_FnExactSureUrl
 rw[szSure_ok bo% W]
 simp only[Option.bind_some]
 rw[bif_dec]
 by_cases g1:leftM 1048576 (l.length+sumL l)<0
 ·rw[if_pos g1]
 rw[if_neg g1]
 have hk:leftM 1048576 (l.length+sumL l)=1048576-((l.length+sumL l:Nat):Int)∧((l.length+sumL l:Nat):Int)≤1048576:=by
  unfold leftM at g1 ⊢
  split at g1
  ·rename_i h;rw[if_pos h];exact ⟨rfl,h⟩
  ·exact absurd bo% g1
 obtain ⟨hk1,hk2⟩:=hk
 rw[hk1,szUrl_ok bo% U bo% bo%]
 simp only[Option.bind_some]
 rw[bif_dec]
 generalize hK:(1048576-((l.length+sumL l:Nat):Int))=K at *
 by_cases g2:leftM K (szU u)<0
 ·rw[if_pos g2]
 rw[if_neg g2]
 have hKl:K≤1048576:=by omega
 obtain ⟨bu,k0,k1,pu⟩:=WU_BU U hKl g2
 have hu:SmU u:=⟨by
  unfold leftM at g2
  split at g2
  ·omega
  ·exact absurd bo% g2,U.p⟩
 have B:BS l:=⟨by omega,fun x hx=>by have:=sumL_mem hx;omega⟩
 have hl4:l.length≤4000000:=by omega
 have pb:=BU_path4 (sureU_bu (l:=l) hu)
 have e1:cl_markSure m (l,()) (1:Int)=_:=markSure_ok (n:=m) (k:=1) bo% hl4 bo%
 have e2:cl_markUrl m u (((1+l.length:Nat):Int))=_:=markUrl_ok (n:=m) (k:=1+l.length) bo% pu bo%
 have e4:cl_markUrl m (sureU l u) (1:Int)=_:=markUrl_ok (n:=m) (k:=1) bo% pb bo%
 have e3:∀v:TUrl,v.2.2.2.2.2.1=marks 1 (sureU l u).2.2.2.2.2.1.length→cl_heldUrl m v (1:Int)=some (((1+(sureU l u).2.2.2.2.2.1.length:Nat):Int),()):=fun v hv=>heldUrl_ok (n:=m) (k:=1) bo% hv pb bo%
 have n1:∀z:Nat,¬((z:Nat):Int)<0:=fun z=>by omega
 simp only[toSure_ok (n:=m) bo% hl4,toUrl_ok (n:=m) bo% pu,spec_SureUrl_ok (n:=m) bo% B hu,impl_SureUrl_ok (n:=m) bo% B hu,eqUrl_refl (n:=m) bo% pu,eqUrl_refl (n:=m) bo% pb,eqSure_refl (n:=m) bo% hl4,e1,e2,e4,Option.bind_some,Bool.not_true,cond_false,bif_dec,n1,if_false]
 rw[e3 _ rfl]
 simp only[Option.bind_some,bif_dec,n1,if_false,decide_true,Bool.not_true,cond_false]
end Go.VM.T
