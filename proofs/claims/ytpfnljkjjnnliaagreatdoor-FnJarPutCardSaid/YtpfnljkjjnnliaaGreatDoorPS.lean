/- The plain law: what the models compute answers as the statement says. -/
import Derived.Test.YtpfnljkjjnnliaaGreatDoorP7
import Derived.Test.YtpfnljkjjnnliaaGreatDoorP4
local macro "bo%" : term => `(by omega)
set_option linter.unusedVariables false
set_option linter.unusedSimpArgs false
namespace Go.VM.T
open Go Go.VM
structure BJ (l:List TCookie):Prop where
 len:l.length≤1100000
 ck:∀c∈l,BC c
theorem BJ.get {l:List TCookie} (B:BJ l) {i:Nat} {c:TCookie} (h:l[i]? = some c):BC c:=B.ck c (List.mem_of_getElem? h)
theorem BJ.sub {l l':List TCookie} (B:BJ l) (h:l'.Sublist l):BJ l':=⟨Nat.le_trans h.length_le B.len,fun c hc=>B.ck c (h.subset hc)⟩
theorem BJ.snoc {l:List TCookie} (B:BJ l) {c:TCookie} (hc:BC c) (hl:l.length≤999):BJ (l++[c]):=⟨by simp;omega,fun x hx=>by
 rcases List.mem_append.1 hx with hx | hx
 ·exact B.ck x hx
 ·rw[List.mem_singleton.1 hx];exact hc⟩
theorem BJ.nil:BJ []:=⟨by simp,by simp⟩
theorem twin_go (a b:TCookie):(bif (a.1==b.1) then (bif (a.2.2.1==b.2.2.1) then (bif (a.2.2.2.1==b.2.2.2.1) then (some ((a.2.2.2.2.1==b.2.2.2.2.1),())) else (some (false,()))) else (some (false,()))) else (some (false,()):Option (Bool×Unit)))=some (twin a b,()):=by
 unfold twin
 rw[←beq_d,←beq_d,←beq_d,←beq_d]
 cases (a.1==b.1) <;> cases (a.2.2.1==b.2.2.1) <;> cases (a.2.2.2.1==b.2.2.2.1) <;> rfl
theorem l7Same_ok {n:Nat} (hn:4194304+1≤n) (a b:TCookie):cs_l7Same n a b=some (twin a b,()):=by
 obtain ⟨m,rfl⟩:=sn hn
 rw[es_l7Same];exact twin_go a b
theorem twin_ok {n:Nat} (hn:4194304+1≤n) (a b:TCookie):ci_Cookie_twin n a b=some (twin a b,()):=by
 obtain ⟨m,rfl⟩:=sn hn
 rw[ei_Cookie_twin];exact twin_go a b
theorem preJ_nil:PreJ []:=⟨by simp,by simp⟩
theorem okJar_pre {l:List TCookie} (P:PreJ l):okJar l=decide (l.length≤10):=by
 by_cases h:l.length≤10
 ·rw[decide_eq_true h,(okJar_iff l).2 ⟨P,h⟩]
 ·rw[decide_eq_false h,(okJar_false l).2 (fun k=>h k.2)]
theorem okJar_bad {l:List TCookie} {i:Nat} (h:¬PreJ (l.take i)):okJar l=false:=(okJar_false l).2 fun k=>h (k.1.sub (List.take_sublist i l))
theorem impl_JarOk_ok {n:Nat} (hn:4194304+26≤n) {l:List TCookie} (B:BJ l):ci_JarOk n l=some (okJar l,()):=by
 obtain ⟨m,rfl⟩:=sn hn
 rw[ei_JarOk];unfold mi_JarOk
 have hlen:=B.len
 refine loopS l (fun _ i st r=>PreJ (l.take i)∧r=(okJar l,())∧st=((i:Int),())) ?_ ?_ ⟨by simpa using preJ_nil,rfl,rfl⟩ bo%
 ·rintro st r self ⟨P,rfl,rfl⟩
  rw[List.take_length] at P
  unfold mi_JarOk.l0
  simp only[bif_dec]
  rw[if_neg bo%,okJar_pre P]
  congr 2
  rw[decide_eq_decide];omega
 ·rintro e L i st r self _ hi hx ⟨P,rfl,rfl⟩ ih
  unfold mi_JarOk.l0
  have hN:=preJ_next hx P
  have hbad:¬(okCookie e=true∧∀a∈l.take i,twin a e=false)→some (false,())=some (okJar l,()):=fun h=>by rw[okJar_bad (fun k=>h (hN.1 k))]
  have k1:(0:Int)≤(i:Int):=by omega
  have k2:(i:Int)<(l.length:Int):=by omega
  have k3:(i:Int)≤(l.length:Int):=by omega
  have k4:(l.take i).length≤9223372036854775807:=by simp;omega
  simp only[bif_dec,grd_dec,Int.toNat_natCast,getD_get dCookie hx,k1,k2,k3,if_true,impl_CookieOk_ok (n:=m) bo% (B.get hx),Option.bind_some,List.drop_zero,k4]
  cases hc:okCookie e with
  | false=>exact hbad fun h=>by rw[h.1] at hc;cases hc
  | true =>
  simp only[Bool.not_true,cond_false]
  rw[idxM_all (f:=fun z=>twin e z) (fun z _=>by rw[twin_ok bo%];rfl)]
  simp only[Option.bind_some,List.findIdx?_isSome]
  cases ha:(l.take i).any fun z=>twin e z with
  | true =>
   obtain ⟨z,hz,ht⟩:=List.any_eq_true.1 ha
   exact hbad fun h=>by rw[twin_comm,h.2 z hz] at ht;cases ht
  | false =>
   simp only[cond_false,w_i (show i≤4000000 by omega)]
   refine ih _ ⟨hN.2 ⟨hc,fun a h=>?_⟩,rfl,rfl⟩
   rw[twin_comm]
   simpa using List.any_eq_false.1 ha a h
theorem twins_in {m:Nat} {l:List TCookie} {i:Nat} {e:TCookie} (hx:l[i]? = some e) (hl:l.length≤1100000) (hm:4194304+1≤m) (f:(Int×Unit)→Option (Bool×Unit)) (r:Bool×Unit)
  (h1:(∃a∈l.take i,twin a e=true)→r=(false,())) (h2:(∀a∈l.take i,twin a e=false)→f (((i+1:Nat):Int),())=some r):loopR (ms_JarOk.l0 m ((i:Int),()) l f) m ((0:Int),())=some r:=by
 have hi:=(List.getElem?_eq_some_iff.1 hx).1
 refine loopS (l.take i) (fun _ j st r'=>r'=r∧st=((j:Int),())∧∀a∈l.take j,twin a e=false) ?_ ?_ ⟨rfl,rfl,by simp⟩ (by simp;omega)
 ·rintro st r' self ⟨rfl,rfl,h⟩
  have hli:(l.take i).length=i:=by simp;omega
  rw[hli] at h ⊢
  unfold ms_JarOk.l0
  simp only[bif_dec]
  rw[if_neg bo%,w_i bo%]
  exact h2 h
 ·rintro a L j st r' self _ hj hy ⟨rfl,rfl,h⟩ ih
  have hji:j<i:=by simp at hj;omega
  have hy':l[j]? = some a:=by rw[List.getElem?_take,if_pos hji] at hy;exact hy
  unfold ms_JarOk.l0
  simp only[bif_dec,grd_dec,Int.toNat_natCast,getD_get dCookie hx,getD_get dCookie hy']
  rw[if_pos bo%,if_pos bo%,if_pos bo%,if_pos bo%,if_pos bo%,l7Same_ok bo%,twin_comm]
  simp only[Option.bind_some]
  cases c:twin a e with
  | true=>rw[h1 ⟨a,mem_take.2 ⟨j,hji,hy'⟩,c⟩];rfl
  | false =>
   simp only[cond_false,w_i (show j≤4000000 by omega)]
   refine ih _ ⟨rfl,rfl,fun b hb=>?_⟩
   rw[take_snoc hy'] at hb
   rcases List.mem_append.1 hb with hb | hb
   ·exact h b hb
   ·rw[List.mem_singleton.1 hb];exact c
theorem spec_JarOk_ok {n:Nat} (hn:4194304+26≤n) {l:List TCookie} (B:BJ l):cs_JarOk n l=some (okJar l,()):=by
 obtain ⟨m,rfl⟩:=sn hn
 rw[es_JarOk];unfold ms_JarOk
 have hlen:=B.len
 refine loopS l (fun _ i st r=>PreJ (l.take i)∧r=(okJar l,())∧st=((i:Int),())) ?_ ?_ ⟨by simpa using preJ_nil,rfl,rfl⟩ bo%
 ·rintro st r self ⟨P,rfl,rfl⟩
  rw[List.take_length] at P
  unfold ms_JarOk.l1
  simp only[bif_dec]
  rw[if_neg bo%,okJar_pre P]
  congr 2
  rw[decide_eq_decide];omega
 ·rintro e L i st r self _ hi hx ⟨P,rfl,rfl⟩ ih
  unfold ms_JarOk.l1
  have hN:=preJ_next hx P
  have hbad:¬(okCookie e=true∧∀a∈l.take i,twin a e=false)→some (false,())=some (okJar l,()):=fun h=>by rw[okJar_bad (fun k=>h (hN.1 k))]
  have k1:(0:Int)≤(i:Int):=by omega
  have k2:(i:Int)<(l.length:Int):=by omega
  simp only[bif_dec,grd_dec,Int.toNat_natCast,getD_get dCookie hx,k1,k2,if_true,spec_CookieOk_ok (n:=m) bo% (B.get hx),Option.bind_some]
  cases hc:okCookie e with
  | false=>exact hbad fun h=>by rw[h.1] at hc;cases hc
  | true =>
  simp only[Bool.not_true,cond_false]
  refine twins_in hx hlen bo% self _ (fun ⟨a,ha,ht⟩=>?_) fun h=>ih _ ⟨hN.2 ⟨hc,h⟩,rfl,rfl⟩
  have:=hbad fun h=>by rw[h.2 a ha] at ht;cases ht
  simpa using this.symm
end Go.VM.T
namespace Go.VM.T
open Go Go.VM
def withMade (c:TCookie) (t:Int):TCookie:=(c.1,c.2.1,c.2.2.1,c.2.2.2.1,c.2.2.2.2.1,c.2.2.2.2.2.1,c.2.2.2.2.2.2.1,c.2.2.2.2.2.2.2.1,t,())
def madeC (c:TCookie):Int:=c.2.2.2.2.2.2.2.2.1
theorem okC_made {c:TCookie} (h:okCookie c=true):0≤madeC c∧madeC c≤1000000:=by
 simp only[okCookie,Bool.and_eq_true,decide_eq_true_eq] at h
 exact h.2.2.2.2.2.2.2.2.1
theorem okC_with {c:TCookie} (h:okCookie c=true) {t:Int} (h0:0≤t) (h1:t≤1000000):okCookie (withMade c t)=true:=by
 simp only[okCookie,Bool.and_eq_true] at h ⊢
 obtain ⟨a1,a2,a3,a4,a5,a6,a7,a8,a9,a10,a11⟩:=h
 exact ⟨a1,a2,a3,a4,a5,a6,a7,a8,decide_eq_true ⟨h0,h1⟩,a10,a11⟩
theorem twin_with (x c:TCookie) (t:Int):twin x (withMade c t)=twin x c:=rfl
theorem BC.with {c:TCookie} (B:BC c) (t:Int):BC (withMade c t):=⟨B.name,B.val,B.dom⟩
def madeJ:List TCookie→TCookie→TCookie
 | [],c=>c
 | x :: l,c=>madeJ l (if twin x c=true then withMade c (madeC x) else c)
theorem madeJ_with:∀(l:List TCookie) (c:TCookie),∃t,madeJ l c=withMade c t∧(t=madeC c∨∃x∈l,t=madeC x)
 | [],c=>⟨madeC c,rfl,.inl rfl⟩
 | x :: l,c=>by
  obtain ⟨t,h1,h2⟩:=madeJ_with l (if twin x c=true then withMade c (madeC x) else c)
  unfold madeJ
  split at h1
  ·rename_i hx
   rw[if_pos hx] at h2 ⊢
   refine ⟨t,h1,?_⟩
   rcases h2 with h2 | ⟨y,hy,h2⟩
   ·exact .inr ⟨x,List.mem_cons_self ..,h2⟩
   ·exact .inr ⟨y,List.mem_cons_of_mem _ hy,h2⟩
  ·rename_i hx
   rw[if_neg hx] at h2 ⊢
   refine ⟨t,h1,?_⟩
   rcases h2 with h2 | ⟨y,hy,h2⟩
   ·exact .inl h2
   ·exact .inr ⟨y,List.mem_cons_of_mem _ hy,h2⟩
def putL (l:List TCookie) (c:TCookie):List TCookie:=(l.filter fun x=>!twin x c)++[madeJ l c]
def cleanL (l:List TCookie) (now:Int):List TCookie:=l.filter fun c=>!overM c now
theorem l7Clean_ok {n:Nat} (hn:4194304+2≤n) {l:List TCookie} (hl:l.length≤1000) (h:∀c∈l,okCookie c=true) (now:Int):cs_l7Clean n l now false=some (cleanL l now,()):=by
 obtain ⟨m,rfl⟩:=sn hn
 rw[es_l7Clean];unfold ms_l7Clean
 refine loopS l (fun _ i st r=>r=(cleanL l now,())∧st=(cleanL (l.take i) now,(i:Int),())) ?_ ?_ ⟨rfl,rfl⟩ bo%
 ·rintro st r self ⟨rfl,rfl⟩
  unfold ms_l7Clean.l0
  simp only[bif_dec]
  rw[if_neg bo%,List.take_length]
 ·rintro c L i st r self _ hi hx ⟨rfl,rfl⟩ ih
  unfold ms_l7Clean.l0
  have k1:(0:Int)≤(i:Int):=by omega
  have k2:(i:Int)<(l.length:Int):=by omega
  have hcl:(cleanL (l.take i) now).length≤1000:=Nat.le_trans (List.length_filter_le _ _) (by simp;omega)
  have k3:(cleanL (l.take i) now).length+([c]:List TCookie).length≤appBound:=ap_le (by simp;omega)
  have hs:cleanL (l.take (i+1)) now=cleanL (l.take i) now++(if overM c now=true then [] else [c]):=by
   unfold cleanL
   rw[take_snoc hx,List.filter_append]
   congr 1
   cases hq:overM c now <;> simp[hq]
  simp only[bif_dec,grd_dec,Int.toNat_natCast,getD_get dCookie hx,k1,k2,k3,if_true,l7Over_ok (n:=m) bo% (h c (List.mem_of_getElem? hx)),Option.bind_some,cond_false,w_i (show i≤4000000 by omega)]
  refine (?_:(bif !overM c now then _ else _)=_)
  cases ho:overM c now with
  | true =>
   rw[ho] at hs
   exact ih _ ⟨rfl,by rw[hs];simp⟩
  | false =>
   rw[ho] at hs
   exact ih _ ⟨rfl,by rw[hs];simp⟩
def CutOf (q r:List TCookie):Prop:=r.Sublist q∧r.length≤10∧(q.length≤10→r=q)
theorem cut_tot {n m:Nat} {q:List TCookie} (hq:q.length≤11) (h10:10<q.length) (hm:100≤m):Tot (loopR (ms_l7Put.l0 n (q,())) m ((0:Int),(1:Int),())) fun r=>CutOf q r.1:=by
 refine loop_tot (fun st=>q.length-st.2.1.toNat) (fun st=>0≤st.1∧st.1<(q.length:Int)∧0≤st.2.1∧st.2.1≤(q.length:Int)) _ ?_ m _ ⟨by simp,by simp only;omega,by simp,by simp only;omega⟩ (by simp only;omega)
 rintro ⟨k,i,⟨⟩⟩ self ⟨h1,h2,h3,h4⟩ ih
 have h1:0≤k:=h1
 have h2:k<(q.length:Int):=h2
 have h3:0≤i:=h3
 have h4:i≤(q.length:Int):=h4
 unfold ms_l7Put.l0
 refine Tot.cond (fun h0=>?_) (fun _=>?_)
 ·have h0:i<(q.length:Int):=of_decide_eq_true h0
  have hw:IntKind.i64.wrap (i+1)=i+1:=w64 bo% bo%
  simp only[hw]
  refine Tot.grd h3 (Tot.grd h0 (Tot.grd h1 (Tot.grd h2 (Tot.cond (fun _=>?_) (fun _=>?_)))))
  ·exact ih _ (by simp only;omega) ⟨by simp only;omega,by simp only;omega,by simp only;omega,by simp only;omega⟩
  ·exact ih _ (by simp only;omega) ⟨by simp only;omega,by simp only;omega,by simp only;omega,by simp only;omega⟩
 ·have hw:IntKind.i64.wrap (k+1)=((k.toNat+1:Nat):Int):=by rw[w64 bo% bo%];omega
  simp only[hw]
  refine Tot.grd h1 (Tot.grd bo% (Tot.grd (ap_le (by simp;omega)) (Tot.grd bo% (Tot.grd bo% (Tot.grd (ap_le (by simp;omega)) (Tot.one ?_))))))
  have e:([]++((q.take k.toNat).drop 0))++((q.take q.length).drop ((k.toNat+1:Nat):Int).toNat)=q.eraseIdx k.toNat:=by
   rw[List.eraseIdx_eq_take_drop_succ,List.take_length,Int.toNat_natCast];simp
  refine ⟨?_,?_,fun h=>by omega⟩
  ·show List.Sublist (([]++_)++_) q
   rw[e];exact List.eraseIdx_sublist ..
  ·show List.length (([]++_)++_)≤10
   rw[e,List.length_eraseIdx,if_pos bo%];omega
theorem after_tot {n m:Nat} (hn:4194304+2≤n) (hm:100≤m) {l:List TCookie} {c:TCookie} (hl:l.length≤10) (h:∀x∈l,okCookie x=true) (hc:okCookie c=true) (now:Int) :
  Tot (grd (decide (l.length+([c]:List TCookie).length≤appBound)) ((cs_l7Clean n (l++([c]:List TCookie)) now false).bind fun y4=>bif (decide ((y4.1.length:Int)≤(10:Int))) then (some y4) else (loopR (ms_l7Put.l0 n y4) m ((0:Int),(1:Int),())))) fun r=>CutOf (cleanL (l++[c]) now) r.1:=by
 refine Tot.grd (ap_le (by simp;omega)) ?_
 have hq:(cleanL (l++[c]) now).length≤11:=Nat.le_trans (List.length_filter_le _ _) (by simp;omega)
 rw[l7Clean_ok hn (by simp;omega) (fun x hx=>by
  rcases List.mem_append.1 hx with hx | hx
  ·exact h x hx
  ·rw[List.mem_singleton.1 hx];exact hc) now]
 simp only[Option.bind_some]
 refine Tot.cond (fun h10=>Tot.one ⟨List.Sublist.refl _,?_,fun _=>rfl⟩) (fun h10=>cut_tot hq ?_ hm)
 ·have:=of_decide_eq_true h10;simp only;omega
 ·have:=of_decide_eq_false h10;omega
theorem l7Put_tot {n:Nat} (hn:4194304+3≤n) {l:List TCookie} {c:TCookie} (hl:l.length≤10) (h:∀x∈l,okCookie x=true) (hc:okCookie c=true) (now:Int):Tot (cs_l7Put n l c now) fun r=>CutOf (cleanL (putL l c) now) r.1:=by
 obtain ⟨m,rfl⟩:=sn hn
 rw[es_l7Put];unfold ms_l7Put
 have hokm:okCookie (madeJ l c)=true:=by
  obtain ⟨t,h1,h2⟩:=madeJ_with l c
  rw[h1]
  rcases h2 with rfl | ⟨x,hx,rfl⟩
  ·exact okC_with hc (okC_made hc).1 (okC_made hc).2
  ·exact okC_with hc (okC_made (h x hx)).1 (okC_made (h x hx)).2
 obtain ⟨r,hr,hQ⟩:=after_tot (n:=m) (m:=m) (l:=l.filter fun x=>!twin x c) (c:=madeJ l c) bo% bo% (Nat.le_trans (List.length_filter_le _ _) hl) (fun x hx=>h x (List.mem_filter.1 hx).1) hokm now
 refine ⟨r,?_,hQ⟩
 refine loopS l (fun L i st r'=>r'=r∧∃t,st=((l.take i).filter (fun x=>!twin x c),(i:Int),withMade c t,())∧madeJ L (withMade c t)=madeJ l c) ?_ ?_ ⟨rfl,madeC c,rfl,rfl⟩ bo%
 ·rintro st r' self ⟨rfl,t,rfl,ht⟩
  unfold ms_l7Put.l1
  simp only[bif_dec]
  rw[if_neg bo%,List.take_length,show withMade c t=madeJ l c from ht]
  simpa only [bif_dec] using hr
 ·rintro x L i st r' self _ hi hx ⟨rfl,t,rfl,ht⟩ ih
  unfold ms_l7Put.l1
  have k1:(0:Int)≤(i:Int):=by omega
  have k2:(i:Int)<(l.length:Int):=by omega
  have k3:((l.take i).filter fun x=>!twin x c).length+([x]:List TCookie).length≤appBound:=ap_le (by have:=List.length_filter_le (fun x=>!twin x c) (l.take i);simp at this ⊢;omega)
  have hs:(l.take (i+1)).filter (fun x=>!twin x c)=(l.take i).filter (fun x=>!twin x c)++(if twin x c=true then [] else [x]):=by
   rw[take_snoc hx,List.filter_append]
   congr 1
   cases hq:twin x c <;> simp[hq]
  simp only[bif_dec,grd_dec,Int.toNat_natCast,getD_get dCookie hx,k1,k2,k3,if_true,l7Same_ok (n:=m) bo%,Option.bind_some,w_i (show i≤4000000 by omega),twin_with]
  have e:madeJ (x :: L) (withMade c t)=madeJ L (if twin x c=true then withMade c (madeC x) else withMade c t):=rfl
  rw[e] at ht
  cases hw:twin x c with
  | true =>
   rw[hw] at hs ht
   exact ih _ ⟨rfl,madeC x,by rw[hs];simp[withMade,madeC],by rw[←ht,if_pos rfl]⟩
  | false =>
   rw[hw] at hs ht
   exact ih _ ⟨rfl,t,by rw[hs];simp,by rw[←ht,if_neg (by simp)]⟩
theorem putL_pre {l:List TCookie} {c:TCookie} (P:PreJ l) (hc:okCookie c=true):PreJ (putL l c):=by
 unfold putL
 obtain ⟨t,h1,h2⟩:=madeJ_with l c
 rw[h1]
 refine preJ_snoc.2 ⟨P.sub List.filter_sublist,?_,fun a ha=>?_⟩
 ·rcases h2 with rfl | ⟨x,hx,rfl⟩
  ·exact okC_with hc (okC_made hc).1 (okC_made hc).2
  ·exact okC_with hc (okC_made (P.one x hx)).1 (okC_made (P.one x hx)).2
 ·have:=(List.mem_filter.1 ha).2
  rw[twin_with];simpa using this
theorem putL_bj {l:List TCookie} {c:TCookie} (B:BJ l) (hl:l.length≤10) (hc:BC c):BJ (putL l c):=by
 obtain ⟨t,h1,_⟩:=madeJ_with l c
 unfold putL
 rw[h1]
 exact (B.sub List.filter_sublist).snoc (hc.with t) (Nat.le_trans (List.length_filter_le _ _) bo%)
theorem JarPut_tot {n:Nat} (hn:4194304+27≤n) {l:List TCookie} {c:TCookie} (B:BJ l) (hok:okJar l=true) (hc:BC c) (now:Int):Tot (cs_JarPut n l c now) fun r=>okJar r.1=true∧BJ r.1∧(okCookie c=true→CutOf (cleanL (putL l c) now) r.1):=by
 obtain ⟨m,rfl⟩:=sn hn
 have hJ:=(okJar_iff l).1 hok
 rw[es_JarPut];unfold ms_JarPut
 rw[spec_JarOk_ok bo% B,hok]
 simp only[Option.bind_some,Bool.not_true,cond_false,spec_CookieOk_ok (n:=m) bo% hc]
 cases hoc:okCookie c with
 | false=>exact Tot.grd (ap_le (by simp;omega)) (Tot.one ⟨hok,B,fun h=>by cases h⟩)
 | true =>
  simp only[Bool.not_true,cond_false]
  refine Tot.bind (l7Put_tot bo% hJ.2 hJ.1.one hoc now) fun r hr=>Tot.one ⟨?_,?_,fun _=>hr⟩
  ·have hs:r.1.Sublist (putL l c):=hr.1.trans List.filter_sublist
   exact (okJar_iff _).2 ⟨(putL_pre hJ.1 hoc).sub hs,hr.2.1⟩
  ·exact (putL_bj B hJ.2 hc).sub (hr.1.trans List.filter_sublist)
def nI (i:Nat):TCookie:=([110]++Lib.decDigits i,[],[97,46,99,111,109],false,[47],0,false,1,(i:Int),())
theorem nI_one {i:Nat} (h:i<10):nI i=([110,UInt8.ofNat (48+i)],[],[97,46,99,111,109],false,[47],0,false,1,(i:Int),()):=by
 unfold nI;rw[Lib.decDigits_one h];rfl
theorem nI_ok {i:Nat} (h:i<10):okCookie (nI i)=true:=by
 rw[nI_one h]
 obtain rfl | rfl | rfl | rfl | rfl | rfl | rfl | rfl | rfl | rfl:i=0∨i=1∨i=2∨i=3∨i=4∨i=5∨i=6∨i=7∨i=8∨i=9:=by omega
 all_goals decide +kernel
theorem nI_ne {i j:Nat} (hi:i<10) (hj:j<i):(nI j).1≠(nI i).1:=by
 rw[nI_one hi,nI_one bo%]
 intro e
 simp only[List.cons.injEq,and_true,true_and] at e
 have:=congrArg UInt8.toNat e
 simp only[UInt8.toNat_ofNat'] at this
 omega
theorem nI_bc {i:Nat} (hi:i<10):BC (nI i):=by rw[nI_one hi];exact ⟨by simp,by simp,by simp⟩
theorem fill_tot {n m:Nat} (hn:4194304+28≤n) (hm:100≤m) {l:List TCookie} (y:Int×TRd×Unit) (B:BJ l) (hok:okJar l=true):Tot (loopR (ms_l11Jar.l0 n y) m (l,(0:Int),())) fun r=>(okJar r.1=true∧BJ r.1)∧r.2=(y.2.1,()):=by
 refine loop_tot (fun st=>10-st.2.1.toNat) (fun st=>(okJar st.1=true∧BJ st.1)∧∃(i:Nat) (A C:List TCookie),st.2.1=(i:Int)∧i≤10∧st.1=A++C∧C.length=i∧∀c∈C,c.2.2.2.2.2.1=0∧∃j,j<i∧c.1=(nI j).1) _ ?_ m _
  ⟨⟨hok,B⟩,0,l,[],rfl,by omega,by simp,rfl,by simp⟩ (by simp;omega)
 rintro ⟨J,i0,⟨⟩⟩ self ⟨⟨hJ0,BJ0⟩,i,A,C,h10,h2,h30,h4,h5⟩ ih
 obtain rfl:i0=(i:Int):=h10
 have h3:J=A++C:=h30
 have hJ:okJar J=true:=hJ0
 have BJ':BJ J:=BJ0
 unfold ms_l11Jar.l0
 refine Tot.cond (fun h0=>?_) (fun _=>Tot.one ⟨⟨hJ,BJ'⟩,rfl⟩)
 have h0:(J.length:Int)<10:=of_decide_eq_true h0
 have hlen:J.length=A.length+C.length:=by rw[h3];simp
 have hi:i<10:=by omega
 rw[spec_l1Dec_ok bo% i bo%]
 simp only[Option.bind_some]
 refine Tot.grd (by rw[Lib.decDigits_one hi];simp) ?_
 have hw:IntKind.i64.wrap ((i:Int)+1)=((i+1:Nat):Int):=w_i bo%
 simp only[hw]
 refine Tot.bind (JarPut_tot (c:=nI i) bo% BJ' hJ (nI_bc hi) 0) fun r ⟨r1,r2,r3⟩=>?_
 refine ih _ (by simp only;omega) ⟨⟨r1,r2⟩,i+1,cleanL (A.filter fun x=>!twin x (nI i)) 0,C++[madeJ J (nI i)],rfl,by omega,?_,by simp[h4],fun c hc=>?_⟩
 ·have hcut:=r3 (nI_ok hi)
  have hq:(cleanL (putL J (nI i)) 0).length≤10:=Nat.le_trans (List.length_filter_le _ _) (by unfold putL;have:=List.length_filter_le (fun x=>!twin x (nI i)) J;simp at this ⊢;omega)
  show r.1=_
  rw[hcut.2.2 hq]
  unfold putL
  rw[h3,List.filter_append]
  unfold cleanL
  rw[List.filter_append,List.filter_append,List.append_assoc]
  congr 1
  have e1:C.filter (fun x=>!twin x (nI i))=C:=List.filter_eq_self.2 fun c hc=>by
   obtain ⟨_,j,hj,hn⟩:=h5 c hc
   have:c.1≠(nI i).1:=by rw[hn];exact nI_ne hi hj
   unfold twin
   rw[decide_eq_false this];rfl
  have e2:C.filter (fun c=>!overM c 0)=C:=List.filter_eq_self.2 fun c hc=>by
   unfold overM
   rw[(h5 c hc).1];rfl
  rw[e1,e2]
  congr 1
  obtain ⟨t,g1,_⟩:=madeJ_with (A++C) (nI i)
  rw[g1]
  have:overM (withMade (nI i) t) 0=false:=by unfold overM withMade nI;rfl
  simp[this]
 ·rcases List.mem_append.1 hc with hc | hc
  ·obtain ⟨g1,j,g2,g3⟩:=h5 c hc
   exact ⟨g1,j,by omega,g3⟩
  ·rw[List.mem_singleton.1 hc]
   obtain ⟨t,g1,_⟩:=madeJ_with J (nI i)
   rw[g1]
   exact ⟨rfl,i,by omega,rfl⟩
def GJ (l:List TCookie):Prop:=okJar l=true∧BJ l
theorem jar_go {n:Nat} (hn:4194304+36≤n) {b:List Int} (B:RdOk b):∀(k:Nat) (m:Nat) (l:List TCookie) (p:Int),k<m→0≤p→p+40*k≤500000→GJ l →
  Dr b p (40*k+1) GJ (loopR (ms_l11Jar.l1 n) m (l,(k:Int),(b,p,()),()))
 | 0,m+1,l,p,_,h0,h1,hJ=>by
  show Dr _ _ _ _ (ms_l11Jar.l1 n (loopR (ms_l11Jar.l1 n) m) _)
  generalize hG:loopR (ms_l11Jar.l1 n) m=G
  unfold ms_l11Jar.l1
  simp only[bif_dec]
  rw[if_neg bo%]
  refine Dr.bind (pick_dr bo% B h0 bo% bo%) fun x q g1 g2 g3=>?_
  dsimp only
  split
  ·obtain ⟨⟨r,rd,⟨⟩⟩,e,hr,hr2⟩:=fill_tot (n:=n) (m:=n) bo% bo% (x,(b,q,()),()) hJ.2 hJ.1
   have hr2:rd=(b,q,()):=by have:=congrArg Prod.fst hr2;exact this
   subst hr2
   rw[e]
   exact Dr.mk bo% bo% hr
  ·exact Dr.mk bo% bo% hJ
 | k+1,m+1,l,p,hm,h0,h1,hJ=>by
  show Dr _ _ _ _ (ms_l11Jar.l1 n (loopR (ms_l11Jar.l1 n) m) _)
  generalize hG:loopR (ms_l11Jar.l1 n) m=G
  unfold ms_l11Jar.l1
  simp only[bif_dec]
  rw[if_pos bo%]
  refine Dr.bind (cookie_dr bo% B h0 bo%) fun c q g1 g2 hc=>?_
  obtain ⟨r,e,r1,r2,_⟩:=JarPut_tot (n:=n) bo% hJ.2 hJ.1 hc 0
  have hw:IntKind.i64.wrap (((k+1:Nat):Int)-1)=(k:Int):=by rw[w64 bo% bo%];omega
  simp only[e,Option.bind_some,hw]
  obtain ⟨u,q4,e,g7,g8,g9⟩:=jar_go hn B k m r.1 q bo% bo% bo% ⟨r1,r2⟩
  exact ⟨u,q4,by rw[←hG];exact e,by omega,by omega,g9⟩
 | 0,0,_,_,h,_,_,_=>absurd h (Nat.not_lt_zero _)
 | _+1,0,_,_,h,_,_,_=>absurd h (Nat.not_lt_zero _)
theorem jar_dr {n:Nat} (hn:4194304+37≤n) {b:List Int} (B:RdOk b) {p:Int} (h0:0≤p) (h1:p≤490000):Dr b p 300 GJ (cs_l11Jar n (b,p,())):=by
 obtain ⟨m,rfl⟩:=sn hn
 rw[es_l11Jar];unfold ms_l11Jar
 refine Dr.bind (pick_dr (c:=6) bo% B h0 bo% bo%) fun k q g1 g2 g3=>?_
 dsimp only
 have:=jar_go (n:=m) bo% B k.toNat m [] q bo% bo% bo% ⟨by rw[okJar_pre preJ_nil];rfl,BJ.nil⟩
 rw[show ((k.toNat:Nat):Int)=k by omega] at this
 obtain ⟨s,q3,e,g7,g8,g9⟩:=this
 exact ⟨s,q3,e,by omega,by omega,g9⟩
theorem anyjar_dr {n:Nat} (hn:4194304+38≤n) {b:List Int} (B:RdOk b) {p:Int} (h0:0≤p) (h1:p≤480000):Dr b p 400 (fun l=>BJ l∧l.length≤11) (cs_l11AnyJar n (b,p,())):=by
 obtain ⟨m,rfl⟩:=sn hn
 rw[es_l11AnyJar];unfold ms_l11AnyJar
 refine Dr.bind (jar_dr bo% B h0 bo%) fun l q g1 g2 hJ=>?_
 have hl:l.length≤10:=((okJar_iff l).1 hJ.1).2
 refine Dr.bind (pick_dr bo% B bo% bo% bo%) fun x q2 a1 a2 a3=>?_
 simp only[bif_dec,grd_dec]
 split
 ·refine Dr.bind (anycookie_dr bo% B bo% bo%) fun c q3 b1 b2 hc=>?_
  dsimp only
  rw[if_pos (ap_le (by simp;omega))]
  exact Dr.mk bo% bo% ⟨hJ.2.snoc hc bo%,by simp;omega⟩
 split
 ·split
  ·rename_i hp
   rw[if_pos bo%,if_pos (ap_le (by simp;omega))]
   exact Dr.mk bo% bo% ⟨hJ.2.snoc (hJ.2.ck _ (getD_mem _ (by simpa using hp))) bo%,by simp;omega⟩
  ·exact Dr.mk bo% bo% ⟨hJ.2,by omega⟩
 ·exact Dr.mk bo% bo% ⟨hJ.2,by omega⟩
end Go.VM.T
namespace Go.VM.T
open Go Go.VM
theorem twin_iff {a b:TCookie}:twin a b=true↔(a.1=b.1∧a.2.2.1=b.2.2.1∧a.2.2.2.1=b.2.2.2.1∧a.2.2.2.2.1=b.2.2.2.2.1):=by
 unfold twin;simp only[Bool.and_eq_true,decide_eq_true_eq]
theorem twin_tr {a b c:TCookie} (h1:twin a c=true) (h2:twin b c=true):twin a b=true:=by
 rw[twin_iff] at *
 obtain ⟨a1,a2,a3,a4⟩:=h1
 obtain ⟨b1,b2,b3,b4⟩:=h2
 exact ⟨a1.trans b1.symm,a2.trans b2.symm,a3.trans b3.symm,a4.trans b4.symm⟩
theorem madeJ_app:∀(A L:List TCookie) (c:TCookie),madeJ (A++L) c=madeJ L (madeJ A c)
 | [],_,_=>rfl
 | x :: A,L,c=>by rw[List.cons_append,madeJ,madeJ,madeJ_app]
theorem madeJ_none:∀ {A:List TCookie} {c:TCookie},(∀x∈A,twin x c=false)→madeJ A c=c
 | [],_,_=>rfl
 | x :: A,c,h=>by
  rw[madeJ,if_neg (by rw[h x (by simp)];simp)]
  exact madeJ_none fun y hy=>h y (by simp[hy])
theorem filter_none {A:List TCookie} {c:TCookie} (h:∀x∈A,twin x c=false):A.filter (fun x=>!twin x c)=A:=List.filter_eq_self.2 fun x hx=>by rw[h x hx];rfl
theorem put_at {l:List TCookie} {c:TCookie} (P:PreJ l) {i:Nat} (h:l.findIdx? (fun z=>twin c z)=some i):∃x,l[i]? = some x∧twin x c=true∧putL l c=(l.take i++l.drop (i+1))++[withMade c (madeC x)]:=by
 rw[List.findIdx?_eq_some_iff_getElem] at h
 obtain ⟨hi,h1,h2⟩:=h
 have hx:l[i]? = some l[i]:=List.getElem?_eq_getElem hi
 generalize l[i]=x at hx h1
 have hA:∀a∈l.take i,twin a c=false:=fun a ha=>by
  obtain ⟨j,hj,e⟩:=mem_take.1 ha
  have:=h2 j hj
  obtain ⟨hjl,e⟩:=List.getElem?_eq_some_iff.1 e
  rw[e] at this
  rw[twin_comm];simpa using this
 have hxc:twin x c=true:=by rw[twin_comm];exact h1
 have hs:l=l.take i++x :: l.drop (i+1):=by
  obtain ⟨hil,e⟩:=List.getElem?_eq_some_iff.1 hx
  conv=>lhs;rw[←List.take_append_drop i l,List.drop_eq_getElem_cons hil,e]
 have hB:∀b∈l.drop (i+1),twin b c=false:=fun b hb=>by
  have hp:=P.two
  rw[hs,List.pairwise_append] at hp
  have:=(List.pairwise_cons.1 hp.2.1).1 b hb
  cases q:twin b c with
  | false=>rfl
  | true=>rw[twin_tr hxc q] at this;cases this
 refine ⟨x,hx,hxc,?_⟩
 have e1:l.filter (fun z=>!twin z c)=l.take i++l.drop (i+1):=by
  conv=>lhs;rw[hs]
  rw[List.filter_append,filter_none hA,List.filter_cons,hxc,filter_none hB];rfl
 have e2:madeJ l c=withMade c (madeC x):=by
  conv=>lhs;rw[hs]
  rw[madeJ_app,madeJ_none hA,madeJ,if_pos hxc]
  exact madeJ_none fun b hb=>by rw[twin_with];exact hB b hb
 unfold putL
 rw[e1,e2]
theorem put_none' {l:List TCookie} {c:TCookie} (h:l.findIdx? (fun z=>twin c z)=none):putL l c=l++[c]:=by
 rw[List.findIdx?_eq_none_iff] at h
 have hA:∀a∈l,twin a c=false:=fun a ha=>by rw[twin_comm];simpa using h a ha
 unfold putL
 rw[filter_none hA,madeJ_none hA]
def minGo (q:List TCookie):List TCookie→Nat→Nat→Nat
 | [],_,k=>k
 | x :: L,i,k=>minGo q L (i+1) (if madeC x<madeC (q.getD k dCookie) then i else k)
theorem minGo_lt {q:List TCookie}:∀(L:List TCookie) (i k:Nat),i+L.length=q.length→k<q.length→minGo q L i k<q.length
 | [],_,_,_,h=>h
 | x :: L,i,k,hi,h=>by
  rw[minGo]
  refine minGo_lt L (i+1) _ (by simp at hi;omega) ?_
  split
  ·simp at hi;omega
  ·exact h
def cutJ (q:List TCookie):List TCookie:=if q.length≤10 then q else q.eraseIdx (minGo q q 0 0)
theorem cutJ_cut {q:List TCookie} (hq:q.length≤11):CutOf q (cutJ q):=by
 unfold cutJ
 split
 ·rename_i h;exact ⟨List.Sublist.refl _,h,fun _=>rfl⟩
 ·rename_i h
  have:=minGo_lt (q:=q) q 0 0 bo% bo%
  refine ⟨List.eraseIdx_sublist ..,?_,fun h'=>absurd h' h⟩
  rw[List.length_eraseIdx,if_pos this];omega
noncomputable def putJ (l:List TCookie) (c:TCookie) (now:Int):List TCookie:=if okJar l=true then (if okCookie c=true then cutJ (cleanL (putL l c) now) else l) else []
def cleanE (l:List TCookie) (now:Int) (e:Bool):List TCookie:=l.filter fun c=>!(overM c now||e&&decide (c.2.2.2.2.2.1=0))
theorem keepM_all {α:Type} {p:α→Option Bool} {f:α→Bool}:∀ {l:List α},(∀z∈l,p z=some (f z))→keepM p l=some (l.filter fun z=>!f z)
 | [],_=>rfl
 | x :: l,h=>by
  have ih:=keepM_all (p:=p) (f:=f) (l:=l) fun z hz=>h z (List.mem_cons_of_mem _ hz)
  simp only[keepM,h x (List.mem_cons_self ..),ih,List.filter_cons]
  cases f x <;> rfl
theorem l7CleanE_ok {n:Nat} (hn:4194304+2≤n) {l:List TCookie} (hl:l.length≤1000) (h:∀c∈l,okCookie c=true) (now:Int) (e:Bool):cs_l7Clean n l now e=some (cleanE l now e,()):=by
 obtain ⟨m,rfl⟩:=sn hn
 rw[es_l7Clean];unfold ms_l7Clean
 refine loopS l (fun _ i st r=>r=(cleanE l now e,())∧st=(cleanE (l.take i) now e,(i:Int),())) ?_ ?_ ⟨rfl,rfl⟩ bo%
 ·rintro st r self ⟨rfl,rfl⟩
  unfold ms_l7Clean.l0
  simp only[bif_dec]
  rw[if_neg bo%,List.take_length]
 ·rintro c L i st r self _ hi hx ⟨rfl,rfl⟩ ih
  unfold ms_l7Clean.l0
  have k1:(0:Int)≤(i:Int):=by omega
  have k2:(i:Int)<(l.length:Int):=by omega
  have hcl:(cleanE (l.take i) now e).length≤1000:=Nat.le_trans (List.length_filter_le _ _) (by simp;omega)
  have k3:(cleanE (l.take i) now e).length+([c]:List TCookie).length≤appBound:=ap_le (by simp;omega)
  have hs:cleanE (l.take (i+1)) now e=cleanE (l.take i) now e++(if (overM c now||e&&decide (c.2.2.2.2.2.1=0))=true then [] else [c]):=by
   unfold cleanE
   rw[take_snoc hx,List.filter_append]
   congr 1
   rw[List.filter_cons,List.filter_nil]
   cases (overM c now||e&&decide (c.2.2.2.2.2.1=0)) <;> rfl
  simp only[bif_dec,grd_dec,Int.toNat_natCast,getD_get dCookie hx,k1,k2,k3,if_true,l7Over_ok (n:=m) bo% (h c (List.mem_of_getElem? hx)),Option.bind_some,w_i (show i≤4000000 by omega)]
  cases ho:overM c now with
  | true =>
   rw[ho] at hs
   refine (?_:(bif !true then _ else _)=_)
   exact ih _ ⟨rfl,by rw[hs];simp⟩
  | false =>
   rw[ho] at hs
   refine (?_:(bif !false then _ else _)=_)
   simp only[Bool.not_false,cond_true]
   cases e with
   | false=>exact ih _ ⟨rfl,by rw[hs];simp⟩
   | true =>
    simp only[cond_true]
    by_cases hu:c.2.2.2.2.2.1=0
    ·rw[decide_eq_true hu] at hs ⊢
     exact ih _ ⟨rfl,by rw[hs];simp⟩
    ·rw[decide_eq_false hu] at hs ⊢
     exact ih _ ⟨rfl,by rw[hs];simp⟩
theorem cut_go {n:Nat} {q:List TCookie} (hq:q.length≤11):∀(L:List TCookie) (m i k:Nat),L.length<m→q.drop i=L→i≤q.length→k<q.length→loopR (ms_l7Put.l0 n (q,())) m ((k:Int),(i:Int),())=some (q.eraseIdx (minGo q L i k),())
 | L,0,_,_,h,_,_,_=>absurd h (Nat.not_lt_zero _)
 | [],m+1,i,k,_,hd,hi,hk=>by
  have hi':i=q.length:=by have:=congrArg List.length hd;simp at this;omega
  show ms_l7Put.l0 n (q,()) (loopR (ms_l7Put.l0 n (q,())) m) _=_
  generalize loopR (ms_l7Put.l0 n (q,())) m=G
  unfold ms_l7Put.l0
  have hw:IntKind.i64.wrap ((k:Int)+1)=((k+1:Nat):Int):=by rw[w64 bo% bo%];omega
  simp only[bif_dec,grd_dec,hw]
  rw[if_neg bo%,if_pos bo%,if_pos bo%,if_pos (ap_le (by simp;omega)),if_pos bo%,if_pos bo%,if_pos (ap_le (by simp;omega))]
  have e:([]++((q.take (k:Int).toNat).drop 0))++((q.take q.length).drop ((k+1:Nat):Int).toNat)=q.eraseIdx k:=by
   rw[List.eraseIdx_eq_take_drop_succ,List.take_length,Int.toNat_natCast,Int.toNat_natCast];simp
  rw[minGo]
  exact congrArg some (congrArg (fun z=>(z,())) e)
 | x :: L,m+1,i,k,hm,hd,hi,hk=>by
  have hil:i<q.length:=by have:=congrArg List.length hd;simp at this;omega
  have hx:q[i]? = some x:=by rw[←List.head?_drop,hd];rfl
  have hd':q.drop (i+1)=L:=by rw[←List.tail_drop,hd];rfl
  have hqk:q[k]? = some (q.getD k dCookie):=by rw[List.getD_eq_getElem?_getD,List.getElem?_eq_getElem hk];rfl
  show ms_l7Put.l0 n (q,()) (loopR (ms_l7Put.l0 n (q,())) m) _=_
  have ih1:=cut_go (n:=n) hq L m (i+1) i (by simp at hm;omega) hd' bo% hil
  have ih2:=cut_go (n:=n) hq L m (i+1) k (by simp at hm;omega) hd' bo% hk
  generalize loopR (ms_l7Put.l0 n (q,())) m=G at ih1 ih2
  unfold ms_l7Put.l0
  simp only[bif_dec,grd_dec,Int.toNat_natCast,getD_get dCookie hx,w_i (show i≤4000000 by omega)]
  rw[if_pos bo%,if_pos bo%,if_pos bo%,if_pos bo%,if_pos bo%,minGo]
  unfold madeC
  split
  ·exact ih1
  ·exact ih2
theorem minGo_one (q:List TCookie):minGo q q 0 0=minGo q (q.drop 1) 1 0:=by
 cases q with
 | nil=>rfl
 | cons x L =>
  rw[minGo,if_neg (by simp)];rfl
theorem okM {l:List TCookie} {c:TCookie} (h:∀x∈l,okCookie x=true) (hc:okCookie c=true):∀x∈putL l c,okCookie x=true:=fun x hx=>by
 unfold putL at hx
 rcases List.mem_append.1 hx with hx | hx
 ·exact h x (List.mem_filter.1 hx).1
 ·rw[List.mem_singleton.1 hx]
  obtain ⟨t,h1,h2⟩:=madeJ_with l c
  rw[h1]
  rcases h2 with rfl | ⟨y,hy,rfl⟩
  ·exact okC_with hc (okC_made hc).1 (okC_made hc).2
  ·exact okC_with hc (okC_made (h y hy)).1 (okC_made (h y hy)).2
theorem putL_len (l:List TCookie) (c:TCookie):(putL l c).length≤l.length+1:=by
 unfold putL
 have:=List.length_filter_le (fun x=>!twin x c) l
 simp;omega
theorem l7Put_ok {n:Nat} (hn:4194304+3≤n) {l:List TCookie} {c:TCookie} (hl:l.length≤10) (h:∀x∈l,okCookie x=true) (hc:okCookie c=true) (now:Int):cs_l7Put n l c now=some (cutJ (cleanL (putL l c) now),()):=by
 obtain ⟨m,rfl⟩:=sn hn
 rw[es_l7Put];unfold ms_l7Put
 have hq:(cleanL (putL l c) now).length≤11:=Nat.le_trans (List.length_filter_le _ _) (by have:=putL_len l c;omega)
 refine loopS l (fun L i st r'=>r'=(cutJ (cleanL (putL l c) now),())∧∃t,st=((l.take i).filter (fun x=>!twin x c),(i:Int),withMade c t,())∧madeJ L (withMade c t)=madeJ l c) ?_ ?_ ⟨rfl,madeC c,rfl,rfl⟩ bo%
 ·rintro st r' self ⟨rfl,t,rfl,ht⟩
  unfold ms_l7Put.l1
  simp only[bif_dec,grd_dec]
  rw[if_neg bo%,List.take_length,show withMade c t=madeJ l c from ht,if_pos (ap_le (by have:=List.length_filter_le (fun x=>!twin x c) l;simp;omega))]
  have hcl:=l7Clean_ok (n:=m) bo% (l:=putL l c) (by have:=putL_len l c;omega) (okM h hc) now
  unfold putL at hcl hq ⊢
  rw[hcl]
  simp only[Option.bind_some]
  unfold cutJ
  split
  ·rw[if_pos bo%]
  ·rw[if_neg bo%,minGo_one]
   exact cut_go hq _ m 1 0 (by simp;omega) rfl bo% bo%
 ·rintro x L i st r' self _ hi hx ⟨rfl,t,rfl,ht⟩ ih
  unfold ms_l7Put.l1
  have k1:(0:Int)≤(i:Int):=by omega
  have k2:(i:Int)<(l.length:Int):=by omega
  have k3:((l.take i).filter fun x=>!twin x c).length+([x]:List TCookie).length≤appBound:=ap_le (by have:=List.length_filter_le (fun x=>!twin x c) (l.take i);simp at this ⊢;omega)
  have hs:(l.take (i+1)).filter (fun x=>!twin x c)=(l.take i).filter (fun x=>!twin x c)++(if twin x c=true then [] else [x]):=by
   rw[take_snoc hx,List.filter_append]
   congr 1
   cases hq:twin x c <;> simp[hq]
  simp only[bif_dec,grd_dec,Int.toNat_natCast,getD_get dCookie hx,k1,k2,k3,if_true,l7Same_ok (n:=m) bo%,Option.bind_some,w_i (show i≤4000000 by omega),twin_with]
  have e:madeJ (x :: L) (withMade c t)=madeJ L (if twin x c=true then withMade c (madeC x) else withMade c t):=rfl
  rw[e] at ht
  cases hw:twin x c with
  | true =>
   rw[hw] at hs ht
   exact ih _ ⟨rfl,madeC x,by rw[hs];simp[withMade,madeC],by rw[←ht,if_pos rfl]⟩
  | false =>
   rw[hw] at hs ht
   exact ih _ ⟨rfl,t,by rw[hs];simp,by rw[←ht,if_neg (by simp)]⟩
theorem spec_JarPut_ok {n:Nat} (hn:4194304+27≤n) {l:List TCookie} {c:TCookie} (B:BJ l) (hc:BC c) (now:Int):cs_JarPut n l c now=some (putJ l c now,()):=by
 obtain ⟨m,rfl⟩:=sn hn
 have hlen:=B.len
 rw[es_JarPut];unfold ms_JarPut putJ
 rw[spec_JarOk_ok bo% B]
 simp only[Option.bind_some]
 cases hok:okJar l with
 | false=>rfl
 | true =>
  have hJ:=(okJar_iff l).1 hok
  simp only[Bool.not_true,cond_false,spec_CookieOk_ok (n:=m) bo% hc,Option.bind_some,if_true]
  cases hoc:okCookie c with
  | false =>
   rw[Bool.not_false,cond_true,grd_dec,if_pos (ap_le (by simp;omega))];rfl
  | true=>rw[Bool.not_true,cond_false,l7Put_ok bo% hJ.2 hJ.1.one hoc now];rfl
theorem spec_JarClean_ok {n:Nat} (hn:4194304+27≤n) {l:List TCookie} (B:BJ l) (now:Int) (e:Bool):cs_JarClean n l now e=some (if okJar l=true then cleanE l now e else [],()):=by
 obtain ⟨m,rfl⟩:=sn hn
 rw[es_JarClean];unfold ms_JarClean
 rw[spec_JarOk_ok bo% B]
 simp only[Option.bind_some]
 cases hok:okJar l with
 | false=>rfl
 | true =>
  have hJ:=(okJar_iff l).1 hok
  simp only[Bool.not_true,cond_false,l7CleanE_ok (n:=m) bo% (show l.length≤1000 by omega) hJ.1.one,Option.bind_some,if_true]
theorem putJ_bj {l:List TCookie} {c:TCookie} (B:BJ l) (hc:BC c) (now:Int):BJ (putJ l c now):=by
 unfold putJ
 split
 ·rename_i hok
  have hJ:=(okJar_iff l).1 hok
  split
  ·have hq:(cleanL (putL l c) now).length≤11:=Nat.le_trans (List.length_filter_le _ _) (by have:=putL_len l c;omega)
   exact (putL_bj B hJ.2 hc).sub ((cutJ_cut hq).1.trans List.filter_sublist)
  ·exact B
 ·exact BJ.nil
end Go.VM.T
namespace Go.VM.T
open Go Go.VM
theorem same_self (c:TCookie):((c.1==c.1)&&((c.2.1==c.2.1)&&((c.2.2.1==c.2.2.1)&&((c.2.2.2.1==c.2.2.2.1)&&((c.2.2.2.2.1==c.2.2.2.2.1)&&((c.2.2.2.2.2.1==c.2.2.2.2.2.1)&&((c.2.2.2.2.2.2.1==c.2.2.2.2.2.2.1)&&((c.2.2.2.2.2.2.2.1==c.2.2.2.2.2.2.2.1)&&((c.2.2.2.2.2.2.2.2.1==c.2.2.2.2.2.2.2.2.1)&&true)))))))))=true:=by simp
theorem cloneC_ok {n:Nat} (hn:4194304+1≤n) {l:List TCookie} (hl:l.length≤1000000):ci_clone_Cookie n l=some (l,()):=by
 obtain ⟨m,rfl⟩:=sn hn
 rw[ei_clone_Cookie];unfold x_slices_Clone
 rw[if_pos hl]
theorem sclone_ok {n:Nat} (hn:4194304+1≤n) {l:List TCookie} (hl:l.length≤1000000):c_slices_Clone_Cookie n l=some (l,()):=by
 obtain ⟨m,rfl⟩:=sn hn
 rw[eq_slices_Clone_Cookie];unfold x_slices_Clone
 rw[if_pos hl]
theorem sclip_ok {n:Nat} (hn:4194304+1≤n) (l:List TCookie):c_slices_Clip_Cookie n l=some (l,()):=by
 obtain ⟨m,rfl⟩:=sn hn
 rw[eq_slices_Clip_Cookie];unfold m_slices_Clip_Cookie
 simp only[grd_dec,if_true]
theorem put1_ok {n:Nat} (hn:4194304+2≤n) {c:TCookie} (h:okCookie c=true) (now:Int):((ci_JarPut_1 n c now).map fun o=>o.1)=some (overM c now):=by
 obtain ⟨m,rfl⟩:=sn hn
 rw[ei_JarPut_1];unfold mi_JarPut_1
 rw[expired_ok bo% h];rfl
theorem clean1_ok {n:Nat} (hn:4194304+2≤n) {c:TCookie} (h:okCookie c=true) (now:Int) (e:Bool):((ci_JarClean_1 n c now e).map fun o=>o.1)=some (overM c now||e&&decide (c.2.2.2.2.2.1=0)):=by
 obtain ⟨m,rfl⟩:=sn hn
 rw[ei_JarClean_1];unfold mi_JarClean_1
 rw[expired_ok bo% h]
 cases overM c now <;> cases e <;> rfl
theorem impl_JarClean_ok {n:Nat} (hn:4194304+27≤n) {l:List TCookie} (B:BJ l) (now:Int) (e:Bool):ci_JarClean n l now e=some (if okJar l=true then cleanE l now e else [],()):=by
 obtain ⟨m,rfl⟩:=sn hn
 rw[ei_JarClean];unfold mi_JarClean
 rw[impl_JarOk_ok bo% B]
 simp only[Option.bind_some]
 cases hok:okJar l with
 | false=>rfl
 | true =>
  have hJ:=(okJar_iff l).1 hok
  simp only[Bool.not_true,cond_false,if_true,sclone_ok (n:=m) bo% (show l.length≤1000000 by omega),Option.bind_some,grd_dec]
  rw[if_pos bo%,keepM_all (f:=fun c=>overM c now||e&&decide (c.2.2.2.2.2.1=0)) (fun z hz=>clean1_ok bo% (hJ.1.one z hz) now e)]
  simp only[Option.bind_some,sclip_ok (n:=m) bo%]
  rfl
theorem cut_goI {n:Nat} (hn:4194304+1≤n) {q:List TCookie} (hq:q.length≤11):∀(L:List TCookie) (m i k:Nat),L.length<m→q.drop i=L→i≤q.length→k<q.length→loopR (mi_JarPut.l0 n q) m ((k:Int),(i:Int),())=some (q.eraseIdx (minGo q L i k),())
 | L,0,_,_,h,_,_,_=>absurd h (Nat.not_lt_zero _)
 | [],m+1,i,k,_,hd,hi,hk=>by
  have hi':i=q.length:=by have:=congrArg List.length hd;simp at this;omega
  show mi_JarPut.l0 n q (loopR (mi_JarPut.l0 n q) m) _=_
  generalize loopR (mi_JarPut.l0 n q) m=G
  unfold mi_JarPut.l0
  have hw:IntKind.i64.wrap ((k:Int)+1)=((k+1:Nat):Int):=by rw[w64 bo% bo%];omega
  simp only[bif_dec,grd_dec,hw,Int.toNat_natCast]
  rw[if_neg bo%,if_pos bo%,if_pos bo%,if_pos bo%,if_pos bo%,cloneC_ok hn (by simp;omega),←List.eraseIdx_eq_take_drop_succ]
  rfl
 | x :: L,m+1,i,k,hm,hd,hi,hk=>by
  have hil:i<q.length:=by have:=congrArg List.length hd;simp at this;omega
  have hx:q[i]? = some x:=by rw[←List.head?_drop,hd];rfl
  have hd':q.drop (i+1)=L:=by rw[←List.tail_drop,hd];rfl
  show mi_JarPut.l0 n q (loopR (mi_JarPut.l0 n q) m) _=_
  have ih1:=cut_goI (n:=n) hn hq L m (i+1) i (by simp at hm;omega) hd' bo% hil
  have ih2:=cut_goI (n:=n) hn hq L m (i+1) k (by simp at hm;omega) hd' bo% hk
  generalize loopR (mi_JarPut.l0 n q) m=G at ih1 ih2
  unfold mi_JarPut.l0
  simp only[bif_dec,grd_dec,Int.toNat_natCast,getD_get dCookie hx,w_i (show i≤4000000 by omega)]
  rw[if_pos bo%,if_pos bo%,if_pos bo%,if_pos bo%,if_pos bo%,minGo]
  unfold madeC
  split
  ·exact ih1
  ·exact ih2
theorem put_tail {n:Nat} (hn:4194304+2≤n) {q:List TCookie} (hq:q.length≤11) (hok:∀x∈q,okCookie x=true) (now:Int) :
  ((keepM (fun z=>(ci_JarPut_1 n z now).map fun o=>o.1) q).bind fun y6=>bif (decide ((10:Int)<(y6.length:Int))) then (loopR (mi_JarPut.l0 n y6) n ((0:Int),(0:Int),())) else ((ci_clone_Cookie n y6).bind fun y10=>some y10))=some (cutJ (cleanL q now),()):=by
 have hl:(cleanL q now).length≤11:=Nat.le_trans (List.length_filter_le _ _) hq
 rw[keepM_all (f:=fun c=>overM c now) (fun z hz=>put1_ok bo% (hok z hz) now)]
 simp only[Option.bind_some]
 change (bif (decide ((10:Int)<((cleanL q now).length:Int))) then (loopR (mi_JarPut.l0 n (cleanL q now)) n ((0:Int),(0:Int),())) else ((ci_clone_Cookie n (cleanL q now)).bind fun y10=>some y10))=_
 rw[bif_dec]
 unfold cutJ
 split
 ·rename_i h
  rw[if_neg bo%]
  exact cut_goI bo% hl _ n 0 0 bo% rfl bo% bo%
 ·rw[if_pos bo%,cloneC_ok bo% bo%];rfl
theorem jput_l1:mi_JarPut.l1=mi_JarPut.l0:=rfl
theorem impl_JarPut_ok {n:Nat} (hn:4194304+27≤n) {l:List TCookie} {c:TCookie} (B:BJ l) (hc:BC c) (now:Int):ci_JarPut n l c now=some (putJ l c now,()):=by
 obtain ⟨m,rfl⟩:=sn hn
 rw[ei_JarPut];unfold mi_JarPut putJ
 rw[impl_JarOk_ok bo% B]
 simp only[Option.bind_some]
 cases hok:okJar l with
 | false=>rfl
 | true =>
  have hJ:=(okJar_iff l).1 hok
  have hl:l.length≤10:=hJ.2
  simp only[Bool.not_true,cond_false,impl_CookieOk_ok (n:=m) bo% hc,Option.bind_some,if_true,jput_l1]
  cases hoc:okCookie c with
  | false =>
   rw[Bool.not_false,cond_true,cloneC_ok bo% bo%];rfl
  | true =>
   have hP:=okM hJ.1.one hoc
   have hPl:=putL_len l c
   simp only[Bool.not_true,cond_false,cloneC_ok (n:=m) bo% (show l.length≤1000000 by omega),Option.bind_some,if_true,grd_dec]
   rw[if_pos bo%,idxM_all (f:=fun z=>twin c z) (fun z _=>by rw[twin_ok bo%];rfl)]
   simp only[Option.bind_some]
   cases hf:l.findIdx? (fun z=>twin c z) with
   | none =>
    have hpl:=put_none' hf
    rw[hpl] at hP hPl ⊢
    rw[show idxV none = -1 from rfl,bif_dec,if_neg bo%,if_pos (ap_le (by simp;omega)),if_pos (by simp;omega)]
    exact put_tail bo% (by simp;omega) hP now
   | some i =>
    obtain ⟨x,hx,hxc,hpl⟩:=put_at hJ.1 hf
    have hi:=(List.getElem?_eq_some_iff.1 hx).1
    rw[hpl] at hP hPl ⊢
    have hw:IntKind.i64.wrap ((i:Int)+1)=((i+1:Nat):Int):=by rw[w64 bo% bo%];omega
    rw[show idxV (some i)=(i:Int) from rfl,bif_dec,if_pos bo%,if_pos bo%,if_pos bo%]
    simp only[hw,Int.toNat_natCast,getD_get dCookie hx]
    have hlen:(l.take i++l.drop (i+1)).length≤10:=by simp;omega
    rw[if_pos bo%,if_pos bo%,if_pos bo%,if_pos bo%,if_pos (ap_le (by simp only[List.length_append] at hlen ⊢;simp only[List.length_cons,List.length_nil];omega)),if_pos (by simp only[List.length_append] at hlen ⊢;simp only[List.length_cons,List.length_nil];omega)]
    exact put_tail bo% (q:=(l.take i++l.drop (i+1))++[withMade c (madeC x)]) (by simp only[List.length_append] at hlen ⊢;simp only[List.length_cons,List.length_nil];omega) hP now
theorem guCookie_refl {n:Nat} (hn:4194304+1≤n) {l:List TCookie} (hl:l.length≤4000000):cl_guCookie n l l=some (true,()):=by
 obtain ⟨m,rfl⟩:=sn hn
 rw[el_guCookie];unfold ml_guCookie
 rw[bif_ndec,if_pos rfl]
 refine loopS l (fun _ i st r=>st=((i:Int),())∧r=(true,())) ?_ ?_ ⟨rfl,rfl⟩ bo%
 ·rintro st r self ⟨rfl,rfl⟩
  unfold ml_guCookie.l0
  simp only[bif_dec]
  rw[if_neg bo%]
 ·rintro c L i st r self _ hi hx ⟨rfl,rfl⟩ ih
  unfold ml_guCookie.l0
  simp only[bif_dec,grd_dec,Int.toNat_natCast,getD_get dCookie hx,same_self,Bool.not_true,cond_false,w_i (show i≤4000000 by omega)]
  rw[if_pos bo%,if_pos bo%,if_pos bo%,if_pos bo%,if_pos bo%]
  exact ih _ ⟨rfl,rfl⟩
end Go.VM.T
namespace Go.VM.T
open Go Go.VM
theorem DrawJarClean_ok {n:Nat} (hn:4194304+40≤n) {code:List Int} (hl:code.length≤1048576) (hc:∀x∈code,0≤x∧x≤255):∃l now e,cs_DrawJarClean n code=some (l,now,e,())∧BJ l∧-1≤now∧now≤1000000:=by
 obtain ⟨m,rfl⟩:=sn hn
 rw[es_DrawJarClean];unfold ms_DrawJarClean
 obtain ⟨b,B,e0⟩:=open_ok (n:=m) bo% hl hc
 obtain ⟨l,q,e1,a1,a2,hJ⟩:=anyjar_dr (n:=m) (p:=0) bo% B bo% bo%
 obtain ⟨now,q3,e4,d1,d2,h1,h2⟩:=now_dr (n:=m) (p:=q) bo% B bo% bo%
 obtain ⟨x,q4,e5,f1,f2,_⟩:=pick_dr (n:=m) (p:=q3) (c:=2) bo% B bo% bo% bo%
 exact ⟨l,now,decide (x=0),by simp only[e0,e1,e4,e5,Option.bind_some],hJ.1,h1,h2⟩
def goneC (now:Int) (e:Bool) (c:TCookie):Bool:=overM c now||e&&decide (c.2.2.2.2.2.1=0)
theorem cleanE_snoc (l:List TCookie) (c:TCookie) (now:Int) (e:Bool):cleanE (l++[c]) now e=cleanE l now e++(if goneC now e c=true then [] else [c]):=by
 unfold cleanE goneC
 rw[List.filter_append]
 congr 1
 rw[List.filter_cons,List.filter_nil]
 cases (overM c now||e&&decide (c.2.2.2.2.2.1=0)) <;> rfl
theorem cleanE_kept {l L:List TCookie} {c:TCookie} {i:Nat} {now:Int} {e:Bool} (hd:l.drop i=c :: L) (hg:goneC now e c=false):(cleanE l now e)[(cleanE (l.take i) now e).length]? = some c:=by
 have hs:l=l.take i++c :: L:=by rw[←hd,List.take_append_drop]
 have:cleanE l now e=cleanE (l.take i) now e++(c :: cleanE L now e):=by
  conv=>lhs;rw[hs]
  unfold cleanE
  rw[List.filter_append,List.filter_cons]
  unfold goneC at hg
  rw[hg];rfl
 rw[this,List.getElem?_append_right (Nat.le_refl _),Nat.sub_self];rfl
theorem over_false {c:TCookie} {now:Int}:overM c now=false↔(c.2.2.2.2.2.1=0∨¬c.2.2.2.2.2.1≤now+1):=by
 unfold overM
 rw[decide_eq_false_iff_not]
 omega
theorem over_true {c:TCookie} {now:Int}:overM c now=true↔(c.2.2.2.2.2.1≠0∧c.2.2.2.2.2.1≤now+1):=by
 unfold overM
 rw[decide_eq_true_eq]
 omega
theorem law_FnJarClean {n:Nat} (hn:4194304+60≤n) {code:List Int} (hc:∀x∈code,0≤x∧x≤255):cl_FnJarClean n code=some (true,()):=by
 obtain ⟨m,rfl⟩:=sn hn
 rw[el_FnJarClean];unfold ml_FnJarClean
 rw[bif_dec]
 split
 ·rfl
 rename_i hl
 obtain ⟨l,now,e,ed,B,hn1,hn2⟩:=DrawJarClean_ok (n:=m) (code:=code) bo% bo% hc
 have hBl:=B.len
 have hXl:(if okJar l=true then cleanE l now e else []).length≤l.length:=by
  split
  ·exact List.length_filter_le _ _
  ·simp
 simp only[ed,impl_JarClean_ok (n:=m) bo% B,spec_JarClean_ok (n:=m) bo% B,spec_JarOk_ok (n:=m) bo% B,guCookie_refl (n:=m) bo% (show (if okJar l=true then cleanE l now e else []).length≤4000000 by omega),Option.bind_some,Bool.not_true,cond_false]
 cases hok:okJar l with
 | false=>rfl
 | true =>
 simp only[Bool.not_true,cond_false,if_true]
 have hJ:=(okJar_iff l).1 hok
 have hsub:(cleanE l now e).Sublist l:=List.filter_sublist
 have hok2:okJar (cleanE l now e)=true:=okJar_sub hok hsub
 have B2:BJ (cleanE l now e):=B.sub hsub
 have hxl:(cleanE l now e).length≤l.length:=hsub.length_le
 have hcc:cleanE (cleanE l now e) now e=cleanE l now e:=by unfold cleanE;rw[List.filter_filter];congr 1;funext c;simp
 refine loopS l (fun r i st q=>st=(((cleanE (l.take i) now e).length:Int),(i:Int),())∧q=(true,())) ?_ ?_ ⟨rfl,rfl⟩ bo%
 ·rintro st r self ⟨rfl,rfl⟩
  unfold ml_FnJarClean.l0
  simp only[bif_dec,List.take_length]
  rw[if_neg bo%]
  simp only[if_true,impl_JarClean_ok (n:=m) bo% B2,hok2,hcc,Option.bind_some,guCookie_refl (n:=m) bo% (show (cleanE l now e).length≤4000000 by omega)]
 ·rintro c L i st r self hd hi hx ⟨rfl,rfl⟩ ih
  unfold ml_FnJarClean.l0
  have k1:(0:Int)≤(i:Int):=by omega
  have k2:(i:Int)<(l.length:Int):=by omega
  have hw:IntKind.i64.wrap (now+1)=now+1:=w64 bo% bo%
  have hwi:IntKind.i64.wrap ((i:Int)+1)=((i+1:Nat):Int):=w_i bo%
  have hsn:=cleanE_snoc (l.take i) c now e
  rw[←take_snoc hx] at hsn
  have hgone:goneC now e c=true→self (((cleanE (l.take i) now e).length:Int),((i+1:Nat):Int),())=some (true,()):=fun hg=>ih _ ⟨by rw[hsn,if_pos hg,List.append_nil],rfl⟩
  have hkl:(cleanE (l.take i) now e).length≤l.length:=Nat.le_trans (List.length_filter_le _ _) (by simp;omega)
  have hkeep:goneC now e c=false→self (((( (cleanE (l.take i) now e).length+1:Nat)):Int),((i+1:Nat):Int),())=some (true,()):=fun hg=>ih _ ⟨by rw[hsn,if_neg (by rw[hg];simp)];simp,rfl⟩
  have hwk:IntKind.i64.wrap (((cleanE (l.take i) now e).length:Int)+1)=(((cleanE (l.take i) now e).length+1:Nat):Int):=w_i bo%
  have hat:goneC now e c=false→(cleanE l now e)[(cleanE (l.take i) now e).length]? = some c:=fun hg=>cleanE_kept hd hg
  generalize (cleanE (l.take i) now e).length=k at *
  simp only[bif_dec,bif_ndec,grd_dec,Int.toNat_natCast,getD_get dCookie hx,k1,k2,if_true,hw,hwi,hwk]
  have keep:goneC now e c=false→(if ((cleanE l now e).length:Int)≤(k:Int) then some (false,()) else if (0:Int)≤(k:Int) then if (k:Int)<((cleanE l now e).length:Int) then (bif !((((cleanE l now e).getD k dCookie).1==c.1)&&((((cleanE l now e).getD k dCookie).2.1==c.2.1)&&((((cleanE l now e).getD k dCookie).2.2.1==c.2.2.1)&&((((cleanE l now e).getD k dCookie).2.2.2.1==c.2.2.2.1)&&((((cleanE l now e).getD k dCookie).2.2.2.2.1==c.2.2.2.2.1)&&((((cleanE l now e).getD k dCookie).2.2.2.2.2.1==c.2.2.2.2.2.1)&&((((cleanE l now e).getD k dCookie).2.2.2.2.2.2.1==c.2.2.2.2.2.2.1)&&((((cleanE l now e).getD k dCookie).2.2.2.2.2.2.2.1==c.2.2.2.2.2.2.2.1)&&((((cleanE l now e).getD k dCookie).2.2.2.2.2.2.2.2.1==c.2.2.2.2.2.2.2.2.1)&&true))))))))) then some (false,()) else self (((k+1:Nat):Int),((i+1:Nat):Int),())) else none else none)=some (true,()):=fun hg=>by
   have hk:=hat hg
   have hkl:=(List.getElem?_eq_some_iff.1 hk).1
   rw[if_neg bo%,if_pos bo%,if_pos bo%,getD_get dCookie hk,same_self]
   exact hkeep hg
  by_cases hu:c.2.2.2.2.2.1=0
  ·have ho:overM c now=false:=over_false.2 (.inl hu)
   rw[if_pos hu]
   cases e with
   | true =>
    simp only[cond_true]
    rw[if_pos hu]
    exact hgone (by unfold goneC;rw[ho,decide_eq_true hu];rfl)
   | false =>
    simp only[cond_false]
    exact keep (by unfold goneC;rw[ho];rfl)
  ·rw[if_neg hu]
   by_cases hv:c.2.2.2.2.2.1≤now+1
   ·have ho:overM c now=true:=over_true.2 ⟨hu,hv⟩
    rw[if_pos hv]
    exact hgone (by unfold goneC;rw[ho];rfl)
   ·have ho:overM c now=false:=over_false.2 (.inr hv)
    have hg:goneC now e c=false:=by unfold goneC;rw[ho,decide_eq_false hu];cases e <;> rfl
    rw[if_neg hv]
    cases e with
    | true =>
     simp only[cond_true]
     rw[if_neg hu]
     exact keep hg
    | false =>
     simp only[cond_false]
     exact keep hg
end Go.VM.T
namespace Go.VM.T
open Go Go.VM
theorem DrawJarPut_ok {n:Nat} (hn:4194304+40≤n) {code:List Int} (hl:code.length≤1048576) (hc:∀x∈code,0≤x∧x≤255):∃l c now,cs_DrawJarPut n code=some (l,c,now,())∧BJ l∧BC c∧-1≤now∧now≤1000000:=by
 obtain ⟨m,rfl⟩:=sn hn
 rw[es_DrawJarPut];unfold ms_DrawJarPut
 obtain ⟨b,B,e0⟩:=open_ok (n:=m) bo% hl hc
 obtain ⟨l,q,e1,a1,a2,hJ⟩:=anyjar_dr (n:=m) (p:=0) bo% B bo% bo%
 obtain ⟨c,q1,e2,b1,b2,hC⟩:=anycookie_dr (n:=m) (p:=q) bo% B bo% bo%
 obtain ⟨x,q2,e3,c1,c2,_⟩:=pick_dr (n:=m) (p:=q1) (c:=3) bo% B bo% bo% bo%
 obtain ⟨n1,r1,f1,g1,g2,h1,h2⟩:=now_dr (n:=m) (p:=q2) bo% B bo% bo%
 obtain ⟨n2,r2,f2,i1,i2,k1,k2⟩:=now_dr (n:=m) (p:=q1) bo% B bo% bo%
 simp only[e0,e1,e2,Option.bind_some,bif_dec,grd_dec]
 split
 ·rename_i hp
  simp only[e3,Option.bind_some,f1]
  split
  ·have hm:=hJ.1.ck _ (getD_mem (i:=0) dCookie bo%)
   rw[if_pos (Int.le_refl _)]
   exact ⟨l,_,n1,rfl,hJ.1,⟨hm.name,by simp,hm.dom⟩,h1,h2⟩
  ·exact ⟨l,c,n1,rfl,hJ.1,hC,h1,h2⟩
 ·simp only[f2,Option.bind_some]
  exact ⟨l,c,n2,rfl,hJ.1,hC,k1,k2⟩
theorem nest4 {b1 b2 b3 b4:Bool} {α:Type} {Y N:α}:(bif b1 then (bif b2 then (bif b3 then (bif b4 then Y else N) else N) else N) else N)=bif (b1&&(b2&&(b3&&b4))) then Y else N:=by
 cases b1 <;> cases b2 <;> cases b3 <;> cases b4 <;> rfl
theorem ite_two {p q:Prop} [Decidable p] [Decidable q] {α:Type} {M F:α} (h:p∨¬q):(if p then M else (if q then F else M))=M:=by
 by_cases hp:p
 ·rw[if_pos hp]
 ·rw[if_neg hp,if_neg (h.resolve_left hp)]
theorem twin_bs (x c:TCookie):((x.1==c.1)&&((x.2.2.1==c.2.2.1)&&((x.2.2.2.1==c.2.2.2.1)&&(x.2.2.2.2.1==c.2.2.2.2.1))))=twin x c:=by
 unfold twin
 rw[←beq_d,←beq_d,←beq_d,←beq_d]
theorem made_next (A:List TCookie) (x c:TCookie):madeC (madeJ (A++[x]) c)=if twin x c=true then madeC x else madeC (madeJ A c):=by
 rw[madeJ_app,madeJ,madeJ]
 obtain ⟨t,h,_⟩:=madeJ_with A c
 rw[h,twin_with]
 split <;> rfl
theorem put_mem {l:List TCookie} {c z:TCookie} {now:Int} (h:z∈cutJ (cleanL (putL l c) now)) (hq:(cleanL (putL l c) now).length≤11):overM z now=false∧(twin z c=true→z=madeJ l c):=by
 have h1:=(cutJ_cut hq).1.subset h
 unfold cleanL at h1
 obtain ⟨h2,h3⟩:=List.mem_filter.1 h1
 refine ⟨by simpa using h3,fun ht=>?_⟩
 unfold putL at h2
 rcases List.mem_append.1 h2 with h2 | h2
 ·have:=(List.mem_filter.1 h2).2
  rw[ht] at this;cases this
 ·exact List.mem_singleton.1 h2
theorem put_count {l:List TCookie} {c:TCookie} {now:Int} (hq:(cleanL (putL l c) now).length≤11):(cutJ (cleanL (putL l c) now)).countP (fun z=>twin z c)≤1:=by
 have hs:(cutJ (cleanL (putL l c) now)).Sublist (putL l c):=(cutJ_cut hq).1.trans List.filter_sublist
 refine Nat.le_trans hs.countP_le ?_
 unfold putL
 rw[List.countP_append]
 have:(l.filter fun x=>!twin x c).countP (fun z=>twin z c)=0:=List.countP_eq_zero.2 fun a ha=>by
  have:=(List.mem_filter.1 ha).2
  simpa using this
 rw[this,Nat.zero_add]
 exact List.countP_le_length
theorem put_ten {l:List TCookie} {c:TCookie} {now:Int} (hq:(cleanL (putL l c) now).length≤11) (h0:(cutJ (cleanL (putL l c) now)).countP (fun z=>twin z c)=0) (ho:overM c now=false):(cutJ (cleanL (putL l c) now)).length=10:=by
 obtain ⟨t,ht,_⟩:=madeJ_with l c
 have hm:madeJ l c∈cleanL (putL l c) now:=by
  unfold cleanL
  refine List.mem_filter.2 ⟨by unfold putL;simp,?_⟩
  rw[ht]
  show (!overM c now)=true
  rw[ho];rfl
 unfold cutJ at h0 ⊢
 split at h0
 ·have:=List.countP_eq_zero.1 h0 _ hm
  rw[ht] at this
  exact absurd (twin_iff.2 ⟨rfl,rfl,rfl,rfl⟩:twin (withMade c t) c=true) this
 ·rename_i h
  rw[if_neg h]
  have:=minGo_lt (q:=cleanL (putL l c) now) (cleanL (putL l c) now) 0 0 bo% bo%
  rw[List.length_eraseIdx,if_pos this];omega
theorem put_check {m:Nat} (hm:4194304+50≤m) {l:List TCookie} {c:TCookie} {now:Int} (B:BJ l) (hc:BC c) (hok:okJar l=true) (hoc:okCookie c=true) (hn1:-1≤now) (hn2:now≤1000000) (i0:Int) :
  loopR (ml_FnJarPut.l0 m (putJ l c now,()) (l,c,now,()) (madeC (madeJ l c),i0,())) m ((0:Int),(0:Int),())=some (true,()):=by
 have hJ:=(okJar_iff l).1 hok
 have hl:l.length≤10:=hJ.2
 have hq:(cleanL (putL l c) now).length≤11:=Nat.le_trans (List.length_filter_le _ _) (by have:=putL_len l c;omega)
 have hX:putJ l c now=cutJ (cleanL (putL l c) now):=by unfold putJ;rw[if_pos hok,if_pos hoc]
 have hB:=putJ_bj B hc now
 have hcut:=cutJ_cut hq
 have hokX:okJar (putJ l c now)=true:=by
  rw[hX]
  exact (okJar_iff _).2 ⟨(putL_pre hJ.1 hoc).sub (hcut.1.trans List.filter_sublist),hcut.2.1⟩
 have hcnt:=put_count (l:=l) (c:=c) (now:=now) hq
 have hten:=put_ten (l:=l) (c:=c) (now:=now) hq
 have hmem:∀z,z∈putJ l c now→overM z now=false∧(twin z c=true→z=madeJ l c):=fun z hz=>put_mem (by rw[←hX];exact hz) hq
 rw[←hX] at hcnt hten
 have hXl:(putJ l c now).length≤10:=by rw[hX];exact hcut.2.1
 have hok1:=impl_JarOk_ok (n:=m) bo% hB
 have hw:IntKind.i64.wrap (now+1)=now+1:=w64 bo% bo%
 generalize putJ l c now=X at *
 refine loopS X (fun r i st q=>st=((((X.take i).countP (fun z=>twin z c):Nat):Int),(i:Int),())∧q=(true,())) ?_ ?_ ⟨rfl,rfl⟩ bo%
 ·rintro st q self ⟨rfl,rfl⟩
  unfold ml_FnJarPut.l0
  rw[List.take_length]
  simp only[bif_dec,bif_ndec,hok1,hokX,Option.bind_some,cond_true,hw]
  rw[if_neg bo%,if_pos bo%]
  by_cases h1:(X.countP fun z=>twin z c)=1
  ·rw[if_pos bo%]
  ·rw[if_neg bo%]
   cases ho:overM c now with
   | true =>
    obtain ⟨o1,o2⟩:=over_true.1 ho
    rw[if_neg o1,if_pos o2]
   | false =>
    have h10:=hten bo% ho
    have e:decide ((X.length:Int)=10)=true:=decide_eq_true bo%
    rw[e]
    rcases over_false.1 ho with o1 | o1
    ·rw[if_pos o1]
    ·split
     ·rfl
     ·first | rfl | rw[if_neg o1]
 ·rintro z L i st q self hd hi hz ⟨rfl,rfl⟩ ih
  unfold ml_FnJarPut.l0
  have k1:(0:Int)≤(i:Int):=by omega
  have k2:(i:Int)<(X.length:Int):=by omega
  obtain ⟨hov,htw⟩:=hmem z (List.mem_of_getElem? hz)
  have hle:(X.take i).countP (fun z=>twin z c)≤10:=Nat.le_trans List.countP_le_length (by simp;omega)
  have hwi:IntKind.i64.wrap ((i:Int)+1)=((i+1:Nat):Int):=w_i bo%
  have hwc:IntKind.i64.wrap ((((X.take i).countP (fun z=>twin z c):Nat):Int)+1)=(((X.take i).countP (fun z=>twin z c)+1:Nat):Int):=w_i bo%
  have hs:(X.take (i+1)).countP (fun z=>twin z c)=(X.take i).countP (fun z=>twin z c)+(if twin z c=true then 1 else 0):=by
   rw[take_snoc hz,List.countP_append,List.countP_cons,List.countP_nil];simp
  have hT:twin z c=true→self (((((X.take i).countP (fun z=>twin z c))+1:Nat):Int),((i+1:Nat):Int),())=some (true,()):=fun h=>ih _ ⟨by rw[hs,if_pos h],rfl⟩
  have hF:twin z c=false→self ((((X.take i).countP (fun z=>twin z c):Nat):Int),((i+1:Nat):Int),())=some (true,()):=fun h=>ih _ ⟨by rw[hs,if_neg (by rw[h];simp)];rfl,rfl⟩
  simp only[bif_dec,bif_ndec,grd_dec,Int.toNat_natCast,getD_get dCookie hz,k1,k2,if_true,hw,hwi,hwc]
  rw[ite_two (over_false.1 hov),nest4,twin_bs]
  cases ht:twin z c with
  | false=>exact hF ht
  | true =>
   obtain ⟨t,g1,_⟩:=madeJ_with l c
   have hzm:=htw ht
   have v1:(z.2.1==c.2.1)=true:=by rw[hzm,g1];exact beq_self_eq_true _
   have v2:z.2.2.2.2.2.2.2.2.1=madeC (madeJ l c):=by rw[hzm];rfl
   rw[cond_true,v1,Bool.not_true,cond_false,if_pos v2]
   exact hT ht
theorem law_FnJarPut {n:Nat} (hn:4194304+60≤n) {code:List Int} (hc:∀x∈code,0≤x∧x≤255):cl_FnJarPut n code=some (true,()):=by
 obtain ⟨m,rfl⟩:=sn hn
 rw[el_FnJarPut];unfold ml_FnJarPut
 rw[bif_dec]
 split
 ·rfl
 rename_i hl
 obtain ⟨l,c,now,ed,B,hC,hn1,hn2⟩:=DrawJarPut_ok (n:=m) (code:=code) bo% bo% hc
 have hS:=putJ_bj B hC now
 have hSl:=hS.len
 have hBl:=B.len
 simp only[ed,impl_JarPut_ok (n:=m) bo% B hC,spec_JarPut_ok (n:=m) bo% B hC,spec_JarOk_ok (n:=m) bo% B,impl_JarOk_ok (n:=m) bo% B,guCookie_refl (n:=m) bo% (show (putJ l c now).length≤4000000 by omega),Option.bind_some,Bool.not_true,cond_false,cond_true,beq_self_eq_true,spec_CookieOk_ok (n:=m) bo% hC]
 cases hok:okJar l with
 | false=>rfl
 | true =>
 cases hoc:okCookie c with
 | false=>rfl
 | true =>
 simp only[Bool.not_true,cond_false]
 refine loopS l (fun r i st q=>st=(madeC (madeJ (l.take i) c),(i:Int),())∧q=(true,())) ?_ ?_ ⟨rfl,rfl⟩ bo%
 ·rintro st q self ⟨rfl,rfl⟩
  unfold ml_FnJarPut.l1
  simp only[bif_dec,List.take_length]
  rw[if_neg bo%]
  exact put_check bo% B hC hok hoc hn1 hn2 _
 ·rintro x L i st q self hd hi hx ⟨rfl,rfl⟩ ih
  unfold ml_FnJarPut.l1
  have k1:(0:Int)≤(i:Int):=by omega
  have k2:(i:Int)<(l.length:Int):=by omega
  have hmn:=made_next (l.take i) x c
  rw[←take_snoc hx] at hmn
  simp only[bif_dec,grd_dec,Int.toNat_natCast,getD_get dCookie hx,k1,k2,if_true,w_i (show i≤4000000 by omega)]
  rw[nest4,twin_bs]
  cases ht:twin x c with
  | false=>exact ih _ ⟨by rw[hmn,if_neg (by rw[ht];simp)],rfl⟩
  | true=>exact ih _ ⟨by rw[hmn,if_pos ht];rfl,rfl⟩
end Go.VM.T
