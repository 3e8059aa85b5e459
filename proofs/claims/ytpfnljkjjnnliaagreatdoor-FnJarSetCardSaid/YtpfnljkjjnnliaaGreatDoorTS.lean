/- The plain law: what the models compute answers as the statement says. -/
import Derived.Test.YtpfnljkjjnnliaaGreatDoorT7
import Derived.Test.YtpfnljkjjnnliaaGreatDoorT4
local macro "bo%" : term => `(by omega)
set_option linter.unusedVariables false
set_option linter.unusedSimpArgs false
namespace Go.VM.T
open Go Go.VM
structure BJ (l:List TCookie):Prop where
 len:l.length≤1100000
 ck:∀c∈l,BC c
theorem BJ.get {l:List TCookie} (B:BJ l) {i:Nat} {c:TCookie} (h:l[i]? = some c):BC c:=B.ck c (List.mem_of_getElem? h)
theorem BJ.sub {l l':List TCookie} (B:BJ l) (h:l'.Sublist l):BJ l':=⟨Nat.le_trans h.length_le B.len,fun c hc=>B.ck c (h.subset hc)⟩
theorem BJ.snoc {l:List TCookie} (B:BJ l) {c:TCookie} (hc:BC c) (hl:l.length≤999):BJ (l++[c]):=⟨by simp;omega,fun x hx=>by
 rcases List.mem_append.1 hx with hx | hx
 ·exact B.ck x hx
 ·rw[List.mem_singleton.1 hx];exact hc⟩
theorem BJ.nil:BJ []:=⟨by simp,by simp⟩
theorem twin_go (a b:TCookie):(bif (a.1==b.1) then (bif (a.2.2.1==b.2.2.1) then (bif (a.2.2.2.1==b.2.2.2.1) then (some ((a.2.2.2.2.1==b.2.2.2.2.1),())) else (some (false,()))) else (some (false,()))) else (some (false,()):Option (Bool×Unit)))=some (twin a b,()):=by
 unfold twin
 rw[←beq_d,←beq_d,←beq_d,←beq_d]
 cases (a.1==b.1) <;> cases (a.2.2.1==b.2.2.1) <;> cases (a.2.2.2.1==b.2.2.2.1) <;> rfl
theorem l7Same_ok {n:Nat} (hn:4194304+1≤n) (a b:TCookie):cs_l7Same n a b=some (twin a b,()):=by
 obtain ⟨m,rfl⟩:=sn hn
 rw[es_l7Same];exact twin_go a b
theorem twin_ok {n:Nat} (hn:4194304+1≤n) (a b:TCookie):ci_Cookie_twin n a b=some (twin a b,()):=by
 obtain ⟨m,rfl⟩:=sn hn
 rw[ei_Cookie_twin];exact twin_go a b
theorem preJ_nil:PreJ []:=⟨by simp,by simp⟩
theorem okJar_pre {l:List TCookie} (P:PreJ l):okJar l=decide (l.length≤10):=by
 by_cases h:l.length≤10
 ·rw[decide_eq_true h,(okJar_iff l).2 ⟨P,h⟩]
 ·rw[decide_eq_false h,(okJar_false l).2 (fun k=>h k.2)]
theorem okJar_bad {l:List TCookie} {i:Nat} (h:¬PreJ (l.take i)):okJar l=false:=(okJar_false l).2 fun k=>h (k.1.sub (List.take_sublist i l))
theorem impl_JarOk_ok {n:Nat} (hn:4194304+26≤n) {l:List TCookie} (B:BJ l):ci_JarOk n l=some (okJar l,()):=by
 obtain ⟨m,rfl⟩:=sn hn
 rw[ei_JarOk];unfold mi_JarOk
 have hlen:=B.len
 refine loopS l (fun _ i st r=>PreJ (l.take i)∧r=(okJar l,())∧st=((i:Int),())) ?_ ?_ ⟨by simpa using preJ_nil,rfl,rfl⟩ bo%
 ·rintro st r self ⟨P,rfl,rfl⟩
  rw[List.take_length] at P
  unfold mi_JarOk.l0
  simp only[bif_dec]
  rw[if_neg bo%,okJar_pre P]
  congr 2
  rw[decide_eq_decide];omega
 ·rintro e L i st r self _ hi hx ⟨P,rfl,rfl⟩ ih
  unfold mi_JarOk.l0
  have hN:=preJ_next hx P
  have hbad:¬(okCookie e=true∧∀a∈l.take i,twin a e=false)→some (false,())=some (okJar l,()):=fun h=>by rw[okJar_bad (fun k=>h (hN.1 k))]
  have k1:(0:Int)≤(i:Int):=by omega
  have k2:(i:Int)<(l.length:Int):=by omega
  have k3:(i:Int)≤(l.length:Int):=by omega
  have k4:(l.take i).length≤9223372036854775807:=by simp;omega
  simp only[bif_dec,grd_dec,Int.toNat_natCast,getD_get dCookie hx,k1,k2,k3,if_true,impl_CookieOk_ok (n:=m) bo% (B.get hx),Option.bind_some,List.drop_zero,k4]
  cases hc:okCookie e with
  | false=>exact hbad fun h=>by rw[h.1] at hc;cases hc
  | true =>
  simp only[Bool.not_true,cond_false]
  rw[idxM_all (f:=fun z=>twin e z) (fun z _=>by rw[twin_ok bo%];rfl)]
  simp only[Option.bind_some,List.findIdx?_isSome]
  cases ha:(l.take i).any fun z=>twin e z with
  | true =>
   obtain ⟨z,hz,ht⟩:=List.any_eq_true.1 ha
   exact hbad fun h=>by rw[twin_comm,h.2 z hz] at ht;cases ht
  | false =>
   simp only[cond_false,w_i (show i≤4000000 by omega)]
   refine ih _ ⟨hN.2 ⟨hc,fun a h=>?_⟩,rfl,rfl⟩
   rw[twin_comm]
   simpa using List.any_eq_false.1 ha a h
theorem twins_in {m:Nat} {l:List TCookie} {i:Nat} {e:TCookie} (hx:l[i]? = some e) (hl:l.length≤1100000) (hm:4194304+1≤m) (f:(Int×Unit)→Option (Bool×Unit)) (r:Bool×Unit)
  (h1:(∃a∈l.take i,twin a e=true)→r=(false,())) (h2:(∀a∈l.take i,twin a e=false)→f (((i+1:Nat):Int),())=some r):loopR (ms_JarOk.l0 m ((i:Int),()) l f) m ((0:Int),())=some r:=by
 have hi:=(List.getElem?_eq_some_iff.1 hx).1
 refine loopS (l.take i) (fun _ j st r'=>r'=r∧st=((j:Int),())∧∀a∈l.take j,twin a e=false) ?_ ?_ ⟨rfl,rfl,by simp⟩ (by simp;omega)
 ·rintro st r' self ⟨rfl,rfl,h⟩
  have hli:(l.take i).length=i:=by simp;omega
  rw[hli] at h ⊢
  unfold ms_JarOk.l0
  simp only[bif_dec]
  rw[if_neg bo%,w_i bo%]
  exact h2 h
 ·rintro a L j st r' self _ hj hy ⟨rfl,rfl,h⟩ ih
  have hji:j<i:=by simp at hj;omega
  have hy':l[j]? = some a:=by rw[List.getElem?_take,if_pos hji] at hy;exact hy
  unfold ms_JarOk.l0
  simp only[bif_dec,grd_dec,Int.toNat_natCast,getD_get dCookie hx,getD_get dCookie hy']
  rw[if_pos bo%,if_pos bo%,if_pos bo%,if_pos bo%,if_pos bo%,l7Same_ok bo%,twin_comm]
  simp only[Option.bind_some]
  cases c:twin a e with
  | true=>rw[h1 ⟨a,mem_take.2 ⟨j,hji,hy'⟩,c⟩];rfl
  | false =>
   simp only[cond_false,w_i (show j≤4000000 by omega)]
   refine ih _ ⟨rfl,rfl,fun b hb=>?_⟩
   rw[take_snoc hy'] at hb
   rcases List.mem_append.1 hb with hb | hb
   ·exact h b hb
   ·rw[List.mem_singleton.1 hb];exact c
theorem spec_JarOk_ok {n:Nat} (hn:4194304+26≤n) {l:List TCookie} (B:BJ l):cs_JarOk n l=some (okJar l,()):=by
 obtain ⟨m,rfl⟩:=sn hn
 rw[es_JarOk];unfold ms_JarOk
 have hlen:=B.len
 refine loopS l (fun _ i st r=>PreJ (l.take i)∧r=(okJar l,())∧st=((i:Int),())) ?_ ?_ ⟨by simpa using preJ_nil,rfl,rfl⟩ bo%
 ·rintro st r self ⟨P,rfl,rfl⟩
  rw[List.take_length] at P
  unfold ms_JarOk.l1
  simp only[bif_dec]
  rw[if_neg bo%,okJar_pre P]
  congr 2
  rw[decide_eq_decide];omega
 ·rintro e L i st r self _ hi hx ⟨P,rfl,rfl⟩ ih
  unfold ms_JarOk.l1
  have hN:=preJ_next hx P
  have hbad:¬(okCookie e=true∧∀a∈l.take i,twin a e=false)→some (false,())=some (okJar l,()):=fun h=>by rw[okJar_bad (fun k=>h (hN.1 k))]
  have k1:(0:Int)≤(i:Int):=by omega
  have k2:(i:Int)<(l.length:Int):=by omega
  simp only[bif_dec,grd_dec,Int.toNat_natCast,getD_get dCookie hx,k1,k2,if_true,spec_CookieOk_ok (n:=m) bo% (B.get hx),Option.bind_some]
  cases hc:okCookie e with
  | false=>exact hbad fun h=>by rw[h.1] at hc;cases hc
  | true =>
  simp only[Bool.not_true,cond_false]
  refine twins_in hx hlen bo% self _ (fun ⟨a,ha,ht⟩=>?_) fun h=>ih _ ⟨hN.2 ⟨hc,h⟩,rfl,rfl⟩
  have:=hbad fun h=>by rw[h.2 a ha] at ht;cases ht
  simpa using this.symm
end Go.VM.T
namespace Go.VM.T
open Go Go.VM
def withMade (c:TCookie) (t:Int):TCookie:=(c.1,c.2.1,c.2.2.1,c.2.2.2.1,c.2.2.2.2.1,c.2.2.2.2.2.1,c.2.2.2.2.2.2.1,c.2.2.2.2.2.2.2.1,t,())
def madeC (c:TCookie):Int:=c.2.2.2.2.2.2.2.2.1
theorem okC_made {c:TCookie} (h:okCookie c=true):0≤madeC c∧madeC c≤1000000:=by
 simp only[okCookie,Bool.and_eq_true,decide_eq_true_eq] at h
 exact h.2.2.2.2.2.2.2.2.1
theorem okC_with {c:TCookie} (h:okCookie c=true) {t:Int} (h0:0≤t) (h1:t≤1000000):okCookie (withMade c t)=true:=by
 simp only[okCookie,Bool.and_eq_true] at h ⊢
 obtain ⟨a1,a2,a3,a4,a5,a6,a7,a8,a9,a10,a11⟩:=h
 exact ⟨a1,a2,a3,a4,a5,a6,a7,a8,decide_eq_true ⟨h0,h1⟩,a10,a11⟩
theorem twin_with (x c:TCookie) (t:Int):twin x (withMade c t)=twin x c:=rfl
theorem BC.with {c:TCookie} (B:BC c) (t:Int):BC (withMade c t):=⟨B.name,B.val,B.dom⟩
def madeJ:List TCookie→TCookie→TCookie
 | [],c=>c
 | x :: l,c=>madeJ l (if twin x c=true then withMade c (madeC x) else c)
theorem madeJ_with:∀(l:List TCookie) (c:TCookie),∃t,madeJ l c=withMade c t∧(t=madeC c∨∃x∈l,t=madeC x)
 | [],c=>⟨madeC c,rfl,.inl rfl⟩
 | x :: l,c=>by
  obtain ⟨t,h1,h2⟩:=madeJ_with l (if twin x c=true then withMade c (madeC x) else c)
  unfold madeJ
  split at h1
  ·rename_i hx
   rw[if_pos hx] at h2 ⊢
   refine ⟨t,h1,?_⟩
   rcases h2 with h2 | ⟨y,hy,h2⟩
   ·exact .inr ⟨x,List.mem_cons_self ..,h2⟩
   ·exact .inr ⟨y,List.mem_cons_of_mem _ hy,h2⟩
  ·rename_i hx
   rw[if_neg hx] at h2 ⊢
   refine ⟨t,h1,?_⟩
   rcases h2 with h2 | ⟨y,hy,h2⟩
   ·exact .inl h2
   ·exact .inr ⟨y,List.mem_cons_of_mem _ hy,h2⟩
def putL (l:List TCookie) (c:TCookie):List TCookie:=(l.filter fun x=>!twin x c)++[madeJ l c]
def cleanL (l:List TCookie) (now:Int):List TCookie:=l.filter fun c=>!overM c now
theorem l7Clean_ok {n:Nat} (hn:4194304+2≤n) {l:List TCookie} (hl:l.length≤1000) (h:∀c∈l,okCookie c=true) (now:Int):cs_l7Clean n l now false=some (cleanL l now,()):=by
 obtain ⟨m,rfl⟩:=sn hn
 rw[es_l7Clean];unfold ms_l7Clean
 refine loopS l (fun _ i st r=>r=(cleanL l now,())∧st=(cleanL (l.take i) now,(i:Int),())) ?_ ?_ ⟨rfl,rfl⟩ bo%
 ·rintro st r self ⟨rfl,rfl⟩
  unfold ms_l7Clean.l0
  simp only[bif_dec]
  rw[if_neg bo%,List.take_length]
 ·rintro c L i st r self _ hi hx ⟨rfl,rfl⟩ ih
  unfold ms_l7Clean.l0
  have k1:(0:Int)≤(i:Int):=by omega
  have k2:(i:Int)<(l.length:Int):=by omega
  have hcl:(cleanL (l.take i) now).length≤1000:=Nat.le_trans (List.length_filter_le _ _) (by simp;omega)
  have k3:(cleanL (l.take i) now).length+([c]:List TCookie).length≤appBound:=ap_le (by simp;omega)
  have hs:cleanL (l.take (i+1)) now=cleanL (l.take i) now++(if overM c now=true then [] else [c]):=by
   unfold cleanL
   rw[take_snoc hx,List.filter_append]
   congr 1
   cases hq:overM c now <;> simp[hq]
  simp only[bif_dec,grd_dec,Int.toNat_natCast,getD_get dCookie hx,k1,k2,k3,if_true,l7Over_ok (n:=m) bo% (h c (List.mem_of_getElem? hx)),Option.bind_some,cond_false,w_i (show i≤4000000 by omega)]
  refine (?_:(bif !overM c now then _ else _)=_)
  cases ho:overM c now with
  | true =>
   rw[ho] at hs
   exact ih _ ⟨rfl,by rw[hs];simp⟩
  | false =>
   rw[ho] at hs
   exact ih _ ⟨rfl,by rw[hs];simp⟩
def CutOf (q r:List TCookie):Prop:=r.Sublist q∧r.length≤10∧(q.length≤10→r=q)
theorem cut_tot {n m:Nat} {q:List TCookie} (hq:q.length≤11) (h10:10<q.length) (hm:100≤m):Tot (loopR (ms_l7Put.l0 n (q,())) m ((0:Int),(1:Int),())) fun r=>CutOf q r.1:=by
 refine loop_tot (fun st=>q.length-st.2.1.toNat) (fun st=>0≤st.1∧st.1<(q.length:Int)∧0≤st.2.1∧st.2.1≤(q.length:Int)) _ ?_ m _ ⟨by simp,by simp only;omega,by simp,by simp only;omega⟩ (by simp only;omega)
 rintro ⟨k,i,⟨⟩⟩ self ⟨h1,h2,h3,h4⟩ ih
 have h1:0≤k:=h1
 have h2:k<(q.length:Int):=h2
 have h3:0≤i:=h3
 have h4:i≤(q.length:Int):=h4
 unfold ms_l7Put.l0
 refine Tot.cond (fun h0=>?_) (fun _=>?_)
 ·have h0:i<(q.length:Int):=of_decide_eq_true h0
  have hw:IntKind.i64.wrap (i+1)=i+1:=w64 bo% bo%
  simp only[hw]
  refine Tot.grd h3 (Tot.grd h0 (Tot.grd h1 (Tot.grd h2 (Tot.cond (fun _=>?_) (fun _=>?_)))))
  ·exact ih _ (by simp only;omega) ⟨by simp only;omega,by simp only;omega,by simp only;omega,by simp only;omega⟩
  ·exact ih _ (by simp only;omega) ⟨by simp only;omega,by simp only;omega,by simp only;omega,by simp only;omega⟩
 ·have hw:IntKind.i64.wrap (k+1)=((k.toNat+1:Nat):Int):=by rw[w64 bo% bo%];omega
  simp only[hw]
  refine Tot.grd h1 (Tot.grd bo% (Tot.grd (ap_le (by simp;omega)) (Tot.grd bo% (Tot.grd bo% (Tot.grd (ap_le (by simp;omega)) (Tot.one ?_))))))
  have e:([]++((q.take k.toNat).drop 0))++((q.take q.length).drop ((k.toNat+1:Nat):Int).toNat)=q.eraseIdx k.toNat:=by
   rw[List.eraseIdx_eq_take_drop_succ,List.take_length,Int.toNat_natCast];simp
  refine ⟨?_,?_,fun h=>by omega⟩
  ·show List.Sublist (([]++_)++_) q
   rw[e];exact List.eraseIdx_sublist ..
  ·show List.length (([]++_)++_)≤10
   rw[e,List.length_eraseIdx,if_pos bo%];omega
theorem after_tot {n m:Nat} (hn:4194304+2≤n) (hm:100≤m) {l:List TCookie} {c:TCookie} (hl:l.length≤10) (h:∀x∈l,okCookie x=true) (hc:okCookie c=true) (now:Int) :
  Tot (grd (decide (l.length+([c]:List TCookie).length≤appBound)) ((cs_l7Clean n (l++([c]:List TCookie)) now false).bind fun y4=>bif (decide ((y4.1.length:Int)≤(10:Int))) then (some y4) else (loopR (ms_l7Put.l0 n y4) m ((0:Int),(1:Int),())))) fun r=>CutOf (cleanL (l++[c]) now) r.1:=by
 refine Tot.grd (ap_le (by simp;omega)) ?_
 have hq:(cleanL (l++[c]) now).length≤11:=Nat.le_trans (List.length_filter_le _ _) (by simp;omega)
 rw[l7Clean_ok hn (by simp;omega) (fun x hx=>by
  rcases List.mem_append.1 hx with hx | hx
  ·exact h x hx
  ·rw[List.mem_singleton.1 hx];exact hc) now]
 simp only[Option.bind_some]
 refine Tot.cond (fun h10=>Tot.one ⟨List.Sublist.refl _,?_,fun _=>rfl⟩) (fun h10=>cut_tot hq ?_ hm)
 ·have:=of_decide_eq_true h10;simp only;omega
 ·have:=of_decide_eq_false h10;omega
theorem l7Put_tot {n:Nat} (hn:4194304+3≤n) {l:List TCookie} {c:TCookie} (hl:l.length≤10) (h:∀x∈l,okCookie x=true) (hc:okCookie c=true) (now:Int):Tot (cs_l7Put n l c now) fun r=>CutOf (cleanL (putL l c) now) r.1:=by
 obtain ⟨m,rfl⟩:=sn hn
 rw[es_l7Put];unfold ms_l7Put
 have hokm:okCookie (madeJ l c)=true:=by
  obtain ⟨t,h1,h2⟩:=madeJ_with l c
  rw[h1]
  rcases h2 with rfl | ⟨x,hx,rfl⟩
  ·exact okC_with hc (okC_made hc).1 (okC_made hc).2
  ·exact okC_with hc (okC_made (h x hx)).1 (okC_made (h x hx)).2
 obtain ⟨r,hr,hQ⟩:=after_tot (n:=m) (m:=m) (l:=l.filter fun x=>!twin x c) (c:=madeJ l c) bo% bo% (Nat.le_trans (List.length_filter_le _ _) hl) (fun x hx=>h x (List.mem_filter.1 hx).1) hokm now
 refine ⟨r,?_,hQ⟩
 refine loopS l (fun L i st r'=>r'=r∧∃t,st=((l.take i).filter (fun x=>!twin x c),(i:Int),withMade c t,())∧madeJ L (withMade c t)=madeJ l c) ?_ ?_ ⟨rfl,madeC c,rfl,rfl⟩ bo%
 ·rintro st r' self ⟨rfl,t,rfl,ht⟩
  unfold ms_l7Put.l1
  simp only[bif_dec]
  rw[if_neg bo%,List.take_length,show withMade c t=madeJ l c from ht]
  simpa only [bif_dec] using hr
 ·rintro x L i st r' self _ hi hx ⟨rfl,t,rfl,ht⟩ ih
  unfold ms_l7Put.l1
  have k1:(0:Int)≤(i:Int):=by omega
  have k2:(i:Int)<(l.length:Int):=by omega
  have k3:((l.take i).filter fun x=>!twin x c).length+([x]:List TCookie).length≤appBound:=ap_le (by have:=List.length_filter_le (fun x=>!twin x c) (l.take i);simp at this ⊢;omega)
  have hs:(l.take (i+1)).filter (fun x=>!twin x c)=(l.take i).filter (fun x=>!twin x c)++(if twin x c=true then [] else [x]):=by
   rw[take_snoc hx,List.filter_append]
   congr 1
   cases hq:twin x c <;> simp[hq]
  simp only[bif_dec,grd_dec,Int.toNat_natCast,getD_get dCookie hx,k1,k2,k3,if_true,l7Same_ok (n:=m) bo%,Option.bind_some,w_i (show i≤4000000 by omega),twin_with]
  have e:madeJ (x :: L) (withMade c t)=madeJ L (if twin x c=true then withMade c (madeC x) else withMade c t):=rfl
  rw[e] at ht
  cases hw:twin x c with
  | true =>
   rw[hw] at hs ht
   exact ih _ ⟨rfl,madeC x,by rw[hs];simp[withMade,madeC],by rw[←ht,if_pos rfl]⟩
  | false =>
   rw[hw] at hs ht
   exact ih _ ⟨rfl,t,by rw[hs];simp,by rw[←ht,if_neg (by simp)]⟩
theorem putL_pre {l:List TCookie} {c:TCookie} (P:PreJ l) (hc:okCookie c=true):PreJ (putL l c):=by
 unfold putL
 obtain ⟨t,h1,h2⟩:=madeJ_with l c
 rw[h1]
 refine preJ_snoc.2 ⟨P.sub List.filter_sublist,?_,fun a ha=>?_⟩
 ·rcases h2 with rfl | ⟨x,hx,rfl⟩
  ·exact okC_with hc (okC_made hc).1 (okC_made hc).2
  ·exact okC_with hc (okC_made (P.one x hx)).1 (okC_made (P.one x hx)).2
 ·have:=(List.mem_filter.1 ha).2
  rw[twin_with];simpa using this
theorem putL_bj {l:List TCookie} {c:TCookie} (B:BJ l) (hl:l.length≤10) (hc:BC c):BJ (putL l c):=by
 obtain ⟨t,h1,_⟩:=madeJ_with l c
 unfold putL
 rw[h1]
 exact (B.sub List.filter_sublist).snoc (hc.with t) (Nat.le_trans (List.length_filter_le _ _) bo%)
theorem JarPut_tot {n:Nat} (hn:4194304+27≤n) {l:List TCookie} {c:TCookie} (B:BJ l) (hok:okJar l=true) (hc:BC c) (now:Int):Tot (cs_JarPut n l c now) fun r=>okJar r.1=true∧BJ r.1∧(okCookie c=true→CutOf (cleanL (putL l c) now) r.1):=by
 obtain ⟨m,rfl⟩:=sn hn
 have hJ:=(okJar_iff l).1 hok
 rw[es_JarPut];unfold ms_JarPut
 rw[spec_JarOk_ok bo% B,hok]
 simp only[Option.bind_some,Bool.not_true,cond_false,spec_CookieOk_ok (n:=m) bo% hc]
 cases hoc:okCookie c with
 | false=>exact Tot.grd (ap_le (by simp;omega)) (Tot.one ⟨hok,B,fun h=>by cases h⟩)
 | true =>
  simp only[Bool.not_true,cond_false]
  refine Tot.bind (l7Put_tot bo% hJ.2 hJ.1.one hoc now) fun r hr=>Tot.one ⟨?_,?_,fun _=>hr⟩
  ·have hs:r.1.Sublist (putL l c):=hr.1.trans List.filter_sublist
   exact (okJar_iff _).2 ⟨(putL_pre hJ.1 hoc).sub hs,hr.2.1⟩
  ·exact (putL_bj B hJ.2 hc).sub (hr.1.trans List.filter_sublist)
def nI (i:Nat):TCookie:=([110]++Lib.decDigits i,[],[97,46,99,111,109],false,[47],0,false,1,(i:Int),())
theorem nI_one {i:Nat} (h:i<10):nI i=([110,UInt8.ofNat (48+i)],[],[97,46,99,111,109],false,[47],0,false,1,(i:Int),()):=by
 unfold nI;rw[Lib.decDigits_one h];rfl
theorem nI_ok {i:Nat} (h:i<10):okCookie (nI i)=true:=by
 rw[nI_one h]
 obtain rfl | rfl | rfl | rfl | rfl | rfl | rfl | rfl | rfl | rfl:i=0∨i=1∨i=2∨i=3∨i=4∨i=5∨i=6∨i=7∨i=8∨i=9:=by omega
 all_goals decide +kernel
theorem nI_ne {i j:Nat} (hi:i<10) (hj:j<i):(nI j).1≠(nI i).1:=by
 rw[nI_one hi,nI_one bo%]
 intro e
 simp only[List.cons.injEq,and_true,true_and] at e
 have:=congrArg UInt8.toNat e
 simp only[UInt8.toNat_ofNat'] at this
 omega
theorem nI_bc {i:Nat} (hi:i<10):BC (nI i):=by rw[nI_one hi];exact ⟨by simp,by simp,by simp⟩
theorem fill_tot {n m:Nat} (hn:4194304+28≤n) (hm:100≤m) {l:List TCookie} (y:Int×TRd×Unit) (B:BJ l) (hok:okJar l=true):Tot (loopR (ms_l11Jar.l0 n y) m (l,(0:Int),())) fun r=>(okJar r.1=true∧BJ r.1)∧r.2=(y.2.1,()):=by
 refine loop_tot (fun st=>10-st.2.1.toNat) (fun st=>(okJar st.1=true∧BJ st.1)∧∃(i:Nat) (A C:List TCookie),st.2.1=(i:Int)∧i≤10∧st.1=A++C∧C.length=i∧∀c∈C,c.2.2.2.2.2.1=0∧∃j,j<i∧c.1=(nI j).1) _ ?_ m _
  ⟨⟨hok,B⟩,0,l,[],rfl,by omega,by simp,rfl,by simp⟩ (by simp;omega)
 rintro ⟨J,i0,⟨⟩⟩ self ⟨⟨hJ0,BJ0⟩,i,A,C,h10,h2,h30,h4,h5⟩ ih
 obtain rfl:i0=(i:Int):=h10
 have h3:J=A++C:=h30
 have hJ:okJar J=true:=hJ0
 have BJ':BJ J:=BJ0
 unfold ms_l11Jar.l0
 refine Tot.cond (fun h0=>?_) (fun _=>Tot.one ⟨⟨hJ,BJ'⟩,rfl⟩)
 have h0:(J.length:Int)<10:=of_decide_eq_true h0
 have hlen:J.length=A.length+C.length:=by rw[h3];simp
 have hi:i<10:=by omega
 rw[spec_l1Dec_ok bo% i bo%]
 simp only[Option.bind_some]
 refine Tot.grd (by rw[Lib.decDigits_one hi];simp) ?_
 have hw:IntKind.i64.wrap ((i:Int)+1)=((i+1:Nat):Int):=w_i bo%
 simp only[hw]
 refine Tot.bind (JarPut_tot (c:=nI i) bo% BJ' hJ (nI_bc hi) 0) fun r ⟨r1,r2,r3⟩=>?_
 refine ih _ (by simp only;omega) ⟨⟨r1,r2⟩,i+1,cleanL (A.filter fun x=>!twin x (nI i)) 0,C++[madeJ J (nI i)],rfl,by omega,?_,by simp[h4],fun c hc=>?_⟩
 ·have hcut:=r3 (nI_ok hi)
  have hq:(cleanL (putL J (nI i)) 0).length≤10:=Nat.le_trans (List.length_filter_le _ _) (by unfold putL;have:=List.length_filter_le (fun x=>!twin x (nI i)) J;simp at this ⊢;omega)
  show r.1=_
  rw[hcut.2.2 hq]
  unfold putL
  rw[h3,List.filter_append]
  unfold cleanL
  rw[List.filter_append,List.filter_append,List.append_assoc]
  congr 1
  have e1:C.filter (fun x=>!twin x (nI i))=C:=List.filter_eq_self.2 fun c hc=>by
   obtain ⟨_,j,hj,hn⟩:=h5 c hc
   have:c.1≠(nI i).1:=by rw[hn];exact nI_ne hi hj
   unfold twin
   rw[decide_eq_false this];rfl
  have e2:C.filter (fun c=>!overM c 0)=C:=List.filter_eq_self.2 fun c hc=>by
   unfold overM
   rw[(h5 c hc).1];rfl
  rw[e1,e2]
  congr 1
  obtain ⟨t,g1,_⟩:=madeJ_with (A++C) (nI i)
  rw[g1]
  have:overM (withMade (nI i) t) 0=false:=by unfold overM withMade nI;rfl
  simp[this]
 ·rcases List.mem_append.1 hc with hc | hc
  ·obtain ⟨g1,j,g2,g3⟩:=h5 c hc
   exact ⟨g1,j,by omega,g3⟩
  ·rw[List.mem_singleton.1 hc]
   obtain ⟨t,g1,_⟩:=madeJ_with J (nI i)
   rw[g1]
   exact ⟨rfl,i,by omega,rfl⟩
def GJ (l:List TCookie):Prop:=okJar l=true∧BJ l
theorem jar_go {n:Nat} (hn:4194304+36≤n) {b:List Int} (B:RdOk b):∀(k:Nat) (m:Nat) (l:List TCookie) (p:Int),k<m→0≤p→p+40*k≤500000→GJ l →
  Dr b p (40*k+1) GJ (loopR (ms_l11Jar.l1 n) m (l,(k:Int),(b,p,()),()))
 | 0,m+1,l,p,_,h0,h1,hJ=>by
  show Dr _ _ _ _ (ms_l11Jar.l1 n (loopR (ms_l11Jar.l1 n) m) _)
  generalize hG:loopR (ms_l11Jar.l1 n) m=G
  unfold ms_l11Jar.l1
  simp only[bif_dec]
  rw[if_neg bo%]
  refine Dr.bind (pick_dr bo% B h0 bo% bo%) fun x q g1 g2 g3=>?_
  dsimp only
  split
  ·obtain ⟨⟨r,rd,⟨⟩⟩,e,hr,hr2⟩:=fill_tot (n:=n) (m:=n) bo% bo% (x,(b,q,()),()) hJ.2 hJ.1
   have hr2:rd=(b,q,()):=by have:=congrArg Prod.fst hr2;exact this
   subst hr2
   rw[e]
   exact Dr.mk bo% bo% hr
  ·exact Dr.mk bo% bo% hJ
 | k+1,m+1,l,p,hm,h0,h1,hJ=>by
  show Dr _ _ _ _ (ms_l11Jar.l1 n (loopR (ms_l11Jar.l1 n) m) _)
  generalize hG:loopR (ms_l11Jar.l1 n) m=G
  unfold ms_l11Jar.l1
  simp only[bif_dec]
  rw[if_pos bo%]
  refine Dr.bind (cookie_dr bo% B h0 bo%) fun c q g1 g2 hc=>?_
  obtain ⟨r,e,r1,r2,_⟩:=JarPut_tot (n:=n) bo% hJ.2 hJ.1 hc 0
  have hw:IntKind.i64.wrap (((k+1:Nat):Int)-1)=(k:Int):=by rw[w64 bo% bo%];omega
  simp only[e,Option.bind_some,hw]
  obtain ⟨u,q4,e,g7,g8,g9⟩:=jar_go hn B k m r.1 q bo% bo% bo% ⟨r1,r2⟩
  exact ⟨u,q4,by rw[←hG];exact e,by omega,by omega,g9⟩
 | 0,0,_,_,h,_,_,_=>absurd h (Nat.not_lt_zero _)
 | _+1,0,_,_,h,_,_,_=>absurd h (Nat.not_lt_zero _)
theorem jar_dr {n:Nat} (hn:4194304+37≤n) {b:List Int} (B:RdOk b) {p:Int} (h0:0≤p) (h1:p≤490000):Dr b p 300 GJ (cs_l11Jar n (b,p,())):=by
 obtain ⟨m,rfl⟩:=sn hn
 rw[es_l11Jar];unfold ms_l11Jar
 refine Dr.bind (pick_dr (c:=6) bo% B h0 bo% bo%) fun k q g1 g2 g3=>?_
 dsimp only
 have:=jar_go (n:=m) bo% B k.toNat m [] q bo% bo% bo% ⟨by rw[okJar_pre preJ_nil];rfl,BJ.nil⟩
 rw[show ((k.toNat:Nat):Int)=k by omega] at this
 obtain ⟨s,q3,e,g7,g8,g9⟩:=this
 exact ⟨s,q3,e,by omega,by omega,g9⟩
theorem anyjar_dr {n:Nat} (hn:4194304+38≤n) {b:List Int} (B:RdOk b) {p:Int} (h0:0≤p) (h1:p≤480000):Dr b p 400 (fun l=>BJ l∧l.length≤11) (cs_l11AnyJar n (b,p,())):=by
 obtain ⟨m,rfl⟩:=sn hn
 rw[es_l11AnyJar];unfold ms_l11AnyJar
 refine Dr.bind (jar_dr bo% B h0 bo%) fun l q g1 g2 hJ=>?_
 have hl:l.length≤10:=((okJar_iff l).1 hJ.1).2
 refine Dr.bind (pick_dr bo% B bo% bo% bo%) fun x q2 a1 a2 a3=>?_
 simp only[bif_dec,grd_dec]
 split
 ·refine Dr.bind (anycookie_dr bo% B bo% bo%) fun c q3 b1 b2 hc=>?_
  dsimp only
  rw[if_pos (ap_le (by simp;omega))]
  exact Dr.mk bo% bo% ⟨hJ.2.snoc hc bo%,by simp;omega⟩
 split
 ·split
  ·rename_i hp
   rw[if_pos bo%,if_pos (ap_le (by simp;omega))]
   exact Dr.mk bo% bo% ⟨hJ.2.snoc (hJ.2.ck _ (getD_mem _ (by simpa using hp))) bo%,by simp;omega⟩
  ·exact Dr.mk bo% bo% ⟨hJ.2,by omega⟩
 ·exact Dr.mk bo% bo% ⟨hJ.2,by omega⟩
end Go.VM.T
namespace Go.VM.T
open Go Go.VM
theorem twin_iff {a b:TCookie}:twin a b=true↔(a.1=b.1∧a.2.2.1=b.2.2.1∧a.2.2.2.1=b.2.2.2.1∧a.2.2.2.2.1=b.2.2.2.2.1):=by
 unfold twin;simp only[Bool.and_eq_true,decide_eq_true_eq]
theorem twin_tr {a b c:TCookie} (h1:twin a c=true) (h2:twin b c=true):twin a b=true:=by
 rw[twin_iff] at *
 obtain ⟨a1,a2,a3,a4⟩:=h1
 obtain ⟨b1,b2,b3,b4⟩:=h2
 exact ⟨a1.trans b1.symm,a2.trans b2.symm,a3.trans b3.symm,a4.trans b4.symm⟩
theorem madeJ_app:∀(A L:List TCookie) (c:TCookie),madeJ (A++L) c=madeJ L (madeJ A c)
 | [],_,_=>rfl
 | x :: A,L,c=>by rw[List.cons_append,madeJ,madeJ,madeJ_app]
theorem madeJ_none:∀ {A:List TCookie} {c:TCookie},(∀x∈A,twin x c=false)→madeJ A c=c
 | [],_,_=>rfl
 | x :: A,c,h=>by
  rw[madeJ,if_neg (by rw[h x (by simp)];simp)]
  exact madeJ_none fun y hy=>h y (by simp[hy])
theorem filter_none {A:List TCookie} {c:TCookie} (h:∀x∈A,twin x c=false):A.filter (fun x=>!twin x c)=A:=List.filter_eq_self.2 fun x hx=>by rw[h x hx];rfl
theorem put_at {l:List TCookie} {c:TCookie} (P:PreJ l) {i:Nat} (h:l.findIdx? (fun z=>twin c z)=some i):∃x,l[i]? = some x∧twin x c=true∧putL l c=(l.take i++l.drop (i+1))++[withMade c (madeC x)]:=by
 rw[List.findIdx?_eq_some_iff_getElem] at h
 obtain ⟨hi,h1,h2⟩:=h
 have hx:l[i]? = some l[i]:=List.getElem?_eq_getElem hi
 generalize l[i]=x at hx h1
 have hA:∀a∈l.take i,twin a c=false:=fun a ha=>by
  obtain ⟨j,hj,e⟩:=mem_take.1 ha
  have:=h2 j hj
  obtain ⟨hjl,e⟩:=List.getElem?_eq_some_iff.1 e
  rw[e] at this
  rw[twin_comm];simpa using this
 have hxc:twin x c=true:=by rw[twin_comm];exact h1
 have hs:l=l.take i++x :: l.drop (i+1):=by
  obtain ⟨hil,e⟩:=List.getElem?_eq_some_iff.1 hx
  conv=>lhs;rw[←List.take_append_drop i l,List.drop_eq_getElem_cons hil,e]
 have hB:∀b∈l.drop (i+1),twin b c=false:=fun b hb=>by
  have hp:=P.two
  rw[hs,List.pairwise_append] at hp
  have:=(List.pairwise_cons.1 hp.2.1).1 b hb
  cases q:twin b c with
  | false=>rfl
  | true=>rw[twin_tr hxc q] at this;cases this
 refine ⟨x,hx,hxc,?_⟩
 have e1:l.filter (fun z=>!twin z c)=l.take i++l.drop (i+1):=by
  conv=>lhs;rw[hs]
  rw[List.filter_append,filter_none hA,List.filter_cons,hxc,filter_none hB];rfl
 have e2:madeJ l c=withMade c (madeC x):=by
  conv=>lhs;rw[hs]
  rw[madeJ_app,madeJ_none hA,madeJ,if_pos hxc]
  exact madeJ_none fun b hb=>by rw[twin_with];exact hB b hb
 unfold putL
 rw[e1,e2]
theorem put_none' {l:List TCookie} {c:TCookie} (h:l.findIdx? (fun z=>twin c z)=none):putL l c=l++[c]:=by
 rw[List.findIdx?_eq_none_iff] at h
 have hA:∀a∈l,twin a c=false:=fun a ha=>by rw[twin_comm];simpa using h a ha
 unfold putL
 rw[filter_none hA,madeJ_none hA]
def minGo (q:List TCookie):List TCookie→Nat→Nat→Nat
 | [],_,k=>k
 | x :: L,i,k=>minGo q L (i+1) (if madeC x<madeC (q.getD k dCookie) then i else k)
theorem minGo_lt {q:List TCookie}:∀(L:List TCookie) (i k:Nat),i+L.length=q.length→k<q.length→minGo q L i k<q.length
 | [],_,_,_,h=>h
 | x :: L,i,k,hi,h=>by
  rw[minGo]
  refine minGo_lt L (i+1) _ (by simp at hi;omega) ?_
  split
  ·simp at hi;omega
  ·exact h
def cutJ (q:List TCookie):List TCookie:=if q.length≤10 then q else q.eraseIdx (minGo q q 0 0)
theorem cutJ_cut {q:List TCookie} (hq:q.length≤11):CutOf q (cutJ q):=by
 unfold cutJ
 split
 ·rename_i h;exact ⟨List.Sublist.refl _,h,fun _=>rfl⟩
 ·rename_i h
  have:=minGo_lt (q:=q) q 0 0 bo% bo%
  refine ⟨List.eraseIdx_sublist ..,?_,fun h'=>absurd h' h⟩
  rw[List.length_eraseIdx,if_pos this];omega
noncomputable def putJ (l:List TCookie) (c:TCookie) (now:Int):List TCookie:=if okJar l=true then (if okCookie c=true then cutJ (cleanL (putL l c) now) else l) else []
theorem keepM_all {α:Type} {p:α→Option Bool} {f:α→Bool}:∀ {l:List α},(∀z∈l,p z=some (f z))→keepM p l=some (l.filter fun z=>!f z)
 | [],_=>rfl
 | x :: l,h=>by
  have ih:=keepM_all (p:=p) (f:=f) (l:=l) fun z hz=>h z (List.mem_cons_of_mem _ hz)
  simp only[keepM,h x (List.mem_cons_self ..),ih,List.filter_cons]
  cases f x <;> rfl
theorem cut_go {n:Nat} {q:List TCookie} (hq:q.length≤11):∀(L:List TCookie) (m i k:Nat),L.length<m→q.drop i=L→i≤q.length→k<q.length→loopR (ms_l7Put.l0 n (q,())) m ((k:Int),(i:Int),())=some (q.eraseIdx (minGo q L i k),())
 | L,0,_,_,h,_,_,_=>absurd h (Nat.not_lt_zero _)
 | [],m+1,i,k,_,hd,hi,hk=>by
  have hi':i=q.length:=by have:=congrArg List.length hd;simp at this;omega
  show ms_l7Put.l0 n (q,()) (loopR (ms_l7Put.l0 n (q,())) m) _=_
  generalize loopR (ms_l7Put.l0 n (q,())) m=G
  unfold ms_l7Put.l0
  have hw:IntKind.i64.wrap ((k:Int)+1)=((k+1:Nat):Int):=by rw[w64 bo% bo%];omega
  simp only[bif_dec,grd_dec,hw]
  rw[if_neg bo%,if_pos bo%,if_pos bo%,if_pos (ap_le (by simp;omega)),if_pos bo%,if_pos bo%,if_pos (ap_le (by simp;omega))]
  have e:([]++((q.take (k:Int).toNat).drop 0))++((q.take q.length).drop ((k+1:Nat):Int).toNat)=q.eraseIdx k:=by
   rw[List.eraseIdx_eq_take_drop_succ,List.take_length,Int.toNat_natCast,Int.toNat_natCast];simp
  rw[minGo]
  exact congrArg some (congrArg (fun z=>(z,())) e)
 | x :: L,m+1,i,k,hm,hd,hi,hk=>by
  have hil:i<q.length:=by have:=congrArg List.length hd;simp at this;omega
  have hx:q[i]? = some x:=by rw[←List.head?_drop,hd];rfl
  have hd':q.drop (i+1)=L:=by rw[←List.tail_drop,hd];rfl
  have hqk:q[k]? = some (q.getD k dCookie):=by rw[List.getD_eq_getElem?_getD,List.getElem?_eq_getElem hk];rfl
  show ms_l7Put.l0 n (q,()) (loopR (ms_l7Put.l0 n (q,())) m) _=_
  have ih1:=cut_go (n:=n) hq L m (i+1) i (by simp at hm;omega) hd' bo% hil
  have ih2:=cut_go (n:=n) hq L m (i+1) k (by simp at hm;omega) hd' bo% hk
  generalize loopR (ms_l7Put.l0 n (q,())) m=G at ih1 ih2
  unfold ms_l7Put.l0
  simp only[bif_dec,grd_dec,Int.toNat_natCast,getD_get dCookie hx,w_i (show i≤4000000 by omega)]
  rw[if_pos bo%,if_pos bo%,if_pos bo%,if_pos bo%,if_pos bo%,minGo]
  unfold madeC
  split
  ·exact ih1
  ·exact ih2
theorem minGo_one (q:List TCookie):minGo q q 0 0=minGo q (q.drop 1) 1 0:=by
 cases q with
 | nil=>rfl
 | cons x L =>
  rw[minGo,if_neg (by simp)];rfl
theorem okM {l:List TCookie} {c:TCookie} (h:∀x∈l,okCookie x=true) (hc:okCookie c=true):∀x∈putL l c,okCookie x=true:=fun x hx=>by
 unfold putL at hx
 rcases List.mem_append.1 hx with hx | hx
 ·exact h x (List.mem_filter.1 hx).1
 ·rw[List.mem_singleton.1 hx]
  obtain ⟨t,h1,h2⟩:=madeJ_with l c
  rw[h1]
  rcases h2 with rfl | ⟨y,hy,rfl⟩
  ·exact okC_with hc (okC_made hc).1 (okC_made hc).2
  ·exact okC_with hc (okC_made (h y hy)).1 (okC_made (h y hy)).2
theorem putL_len (l:List TCookie) (c:TCookie):(putL l c).length≤l.length+1:=by
 unfold putL
 have:=List.length_filter_le (fun x=>!twin x c) l
 simp;omega
theorem l7Put_ok {n:Nat} (hn:4194304+3≤n) {l:List TCookie} {c:TCookie} (hl:l.length≤10) (h:∀x∈l,okCookie x=true) (hc:okCookie c=true) (now:Int):cs_l7Put n l c now=some (cutJ (cleanL (putL l c) now),()):=by
 obtain ⟨m,rfl⟩:=sn hn
 rw[es_l7Put];unfold ms_l7Put
 have hq:(cleanL (putL l c) now).length≤11:=Nat.le_trans (List.length_filter_le _ _) (by have:=putL_len l c;omega)
 refine loopS l (fun L i st r'=>r'=(cutJ (cleanL (putL l c) now),())∧∃t,st=((l.take i).filter (fun x=>!twin x c),(i:Int),withMade c t,())∧madeJ L (withMade c t)=madeJ l c) ?_ ?_ ⟨rfl,madeC c,rfl,rfl⟩ bo%
 ·rintro st r' self ⟨rfl,t,rfl,ht⟩
  unfold ms_l7Put.l1
  simp only[bif_dec,grd_dec]
  rw[if_neg bo%,List.take_length,show withMade c t=madeJ l c from ht,if_pos (ap_le (by have:=List.length_filter_le (fun x=>!twin x c) l;simp;omega))]
  have hcl:=l7Clean_ok (n:=m) bo% (l:=putL l c) (by have:=putL_len l c;omega) (okM h hc) now
  unfold putL at hcl hq ⊢
  rw[hcl]
  simp only[Option.bind_some]
  unfold cutJ
  split
  ·rw[if_pos bo%]
  ·rw[if_neg bo%,minGo_one]
   exact cut_go hq _ m 1 0 (by simp;omega) rfl bo% bo%
 ·rintro x L i st r' self _ hi hx ⟨rfl,t,rfl,ht⟩ ih
  unfold ms_l7Put.l1
  have k1:(0:Int)≤(i:Int):=by omega
  have k2:(i:Int)<(l.length:Int):=by omega
  have k3:((l.take i).filter fun x=>!twin x c).length+([x]:List TCookie).length≤appBound:=ap_le (by have:=List.length_filter_le (fun x=>!twin x c) (l.take i);simp at this ⊢;omega)
  have hs:(l.take (i+1)).filter (fun x=>!twin x c)=(l.take i).filter (fun x=>!twin x c)++(if twin x c=true then [] else [x]):=by
   rw[take_snoc hx,List.filter_append]
   congr 1
   cases hq:twin x c <;> simp[hq]
  simp only[bif_dec,grd_dec,Int.toNat_natCast,getD_get dCookie hx,k1,k2,k3,if_true,l7Same_ok (n:=m) bo%,Option.bind_some,w_i (show i≤4000000 by omega),twin_with]
  have e:madeJ (x :: L) (withMade c t)=madeJ L (if twin x c=true then withMade c (madeC x) else withMade c t):=rfl
  rw[e] at ht
  cases hw:twin x c with
  | true =>
   rw[hw] at hs ht
   exact ih _ ⟨rfl,madeC x,by rw[hs];simp[withMade,madeC],by rw[←ht,if_pos rfl]⟩
  | false =>
   rw[hw] at hs ht
   exact ih _ ⟨rfl,t,by rw[hs];simp,by rw[←ht,if_neg (by simp)]⟩
theorem putJ_bj {l:List TCookie} {c:TCookie} (B:BJ l) (hc:BC c) (now:Int):BJ (putJ l c now):=by
 unfold putJ
 split
 ·rename_i hok
  have hJ:=(okJar_iff l).1 hok
  split
  ·have hq:(cleanL (putL l c) now).length≤11:=Nat.le_trans (List.length_filter_le _ _) (by have:=putL_len l c;omega)
   exact (putL_bj B hJ.2 hc).sub ((cutJ_cut hq).1.trans List.filter_sublist)
  ·exact B
 ·exact BJ.nil
end Go.VM.T
namespace Go.VM.T
open Go Go.VM
theorem same_self (c:TCookie):((c.1==c.1)&&((c.2.1==c.2.1)&&((c.2.2.1==c.2.2.1)&&((c.2.2.2.1==c.2.2.2.1)&&((c.2.2.2.2.1==c.2.2.2.2.1)&&((c.2.2.2.2.2.1==c.2.2.2.2.2.1)&&((c.2.2.2.2.2.2.1==c.2.2.2.2.2.2.1)&&((c.2.2.2.2.2.2.2.1==c.2.2.2.2.2.2.2.1)&&((c.2.2.2.2.2.2.2.2.1==c.2.2.2.2.2.2.2.2.1)&&true)))))))))=true:=by simp
theorem cloneC_ok {n:Nat} (hn:4194304+1≤n) {l:List TCookie} (hl:l.length≤1000000):ci_clone_Cookie n l=some (l,()):=by
 obtain ⟨m,rfl⟩:=sn hn
 rw[ei_clone_Cookie];unfold x_slices_Clone
 rw[if_pos hl]
theorem put1_ok {n:Nat} (hn:4194304+2≤n) {c:TCookie} (h:okCookie c=true) (now:Int):((ci_JarPut_1 n c now).map fun o=>o.1)=some (overM c now):=by
 obtain ⟨m,rfl⟩:=sn hn
 rw[ei_JarPut_1];unfold mi_JarPut_1
 rw[expired_ok bo% h];rfl
theorem cut_goI {n:Nat} (hn:4194304+1≤n) {q:List TCookie} (hq:q.length≤11):∀(L:List TCookie) (m i k:Nat),L.length<m→q.drop i=L→i≤q.length→k<q.length→loopR (mi_JarPut.l0 n q) m ((k:Int),(i:Int),())=some (q.eraseIdx (minGo q L i k),())
 | L,0,_,_,h,_,_,_=>absurd h (Nat.not_lt_zero _)
 | [],m+1,i,k,_,hd,hi,hk=>by
  have hi':i=q.length:=by have:=congrArg List.length hd;simp at this;omega
  show mi_JarPut.l0 n q (loopR (mi_JarPut.l0 n q) m) _=_
  generalize loopR (mi_JarPut.l0 n q) m=G
  unfold mi_JarPut.l0
  have hw:IntKind.i64.wrap ((k:Int)+1)=((k+1:Nat):Int):=by rw[w64 bo% bo%];omega
  simp only[bif_dec,grd_dec,hw,Int.toNat_natCast]
  rw[if_neg bo%,if_pos bo%,if_pos bo%,if_pos bo%,if_pos bo%,cloneC_ok hn (by simp;omega),←List.eraseIdx_eq_take_drop_succ]
  rfl
 | x :: L,m+1,i,k,hm,hd,hi,hk=>by
  have hil:i<q.length:=by have:=congrArg List.length hd;simp at this;omega
  have hx:q[i]? = some x:=by rw[←List.head?_drop,hd];rfl
  have hd':q.drop (i+1)=L:=by rw[←List.tail_drop,hd];rfl
  show mi_JarPut.l0 n q (loopR (mi_JarPut.l0 n q) m) _=_
  have ih1:=cut_goI (n:=n) hn hq L m (i+1) i (by simp at hm;omega) hd' bo% hil
  have ih2:=cut_goI (n:=n) hn hq L m (i+1) k (by simp at hm;omega) hd' bo% hk
  generalize loopR (mi_JarPut.l0 n q) m=G at ih1 ih2
  unfold mi_JarPut.l0
  simp only[bif_dec,grd_dec,Int.toNat_natCast,getD_get dCookie hx,w_i (show i≤4000000 by omega)]
  rw[if_pos bo%,if_pos bo%,if_pos bo%,if_pos bo%,if_pos bo%,minGo]
  unfold madeC
  split
  ·exact ih1
  ·exact ih2
theorem put_tail {n:Nat} (hn:4194304+2≤n) {q:List TCookie} (hq:q.length≤11) (hok:∀x∈q,okCookie x=true) (now:Int) :
  ((keepM (fun z=>(ci_JarPut_1 n z now).map fun o=>o.1) q).bind fun y6=>bif (decide ((10:Int)<(y6.length:Int))) then (loopR (mi_JarPut.l0 n y6) n ((0:Int),(0:Int),())) else ((ci_clone_Cookie n y6).bind fun y10=>some y10))=some (cutJ (cleanL q now),()):=by
 have hl:(cleanL q now).length≤11:=Nat.le_trans (List.length_filter_le _ _) hq
 rw[keepM_all (f:=fun c=>overM c now) (fun z hz=>put1_ok bo% (hok z hz) now)]
 simp only[Option.bind_some]
 change (bif (decide ((10:Int)<((cleanL q now).length:Int))) then (loopR (mi_JarPut.l0 n (cleanL q now)) n ((0:Int),(0:Int),())) else ((ci_clone_Cookie n (cleanL q now)).bind fun y10=>some y10))=_
 rw[bif_dec]
 unfold cutJ
 split
 ·rename_i h
  rw[if_neg bo%]
  exact cut_goI bo% hl _ n 0 0 bo% rfl bo% bo%
 ·rw[if_pos bo%,cloneC_ok bo% bo%];rfl
theorem jput_l1:mi_JarPut.l1=mi_JarPut.l0:=rfl
theorem impl_JarPut_ok {n:Nat} (hn:4194304+27≤n) {l:List TCookie} {c:TCookie} (B:BJ l) (hc:BC c) (now:Int):ci_JarPut n l c now=some (putJ l c now,()):=by
 obtain ⟨m,rfl⟩:=sn hn
 rw[ei_JarPut];unfold mi_JarPut putJ
 rw[impl_JarOk_ok bo% B]
 simp only[Option.bind_some]
 cases hok:okJar l with
 | false=>rfl
 | true =>
  have hJ:=(okJar_iff l).1 hok
  have hl:l.length≤10:=hJ.2
  simp only[Bool.not_true,cond_false,impl_CookieOk_ok (n:=m) bo% hc,Option.bind_some,if_true,jput_l1]
  cases hoc:okCookie c with
  | false =>
   rw[Bool.not_false,cond_true,cloneC_ok bo% bo%];rfl
  | true =>
   have hP:=okM hJ.1.one hoc
   have hPl:=putL_len l c
   simp only[Bool.not_true,cond_false,cloneC_ok (n:=m) bo% (show l.length≤1000000 by omega),Option.bind_some,if_true,grd_dec]
   rw[if_pos bo%,idxM_all (f:=fun z=>twin c z) (fun z _=>by rw[twin_ok bo%];rfl)]
   simp only[Option.bind_some]
   cases hf:l.findIdx? (fun z=>twin c z) with
   | none =>
    have hpl:=put_none' hf
    rw[hpl] at hP hPl ⊢
    rw[show idxV none = -1 from rfl,bif_dec,if_neg bo%,if_pos (ap_le (by simp;omega)),if_pos (by simp;omega)]
    exact put_tail bo% (by simp;omega) hP now
   | some i =>
    obtain ⟨x,hx,hxc,hpl⟩:=put_at hJ.1 hf
    have hi:=(List.getElem?_eq_some_iff.1 hx).1
    rw[hpl] at hP hPl ⊢
    have hw:IntKind.i64.wrap ((i:Int)+1)=((i+1:Nat):Int):=by rw[w64 bo% bo%];omega
    rw[show idxV (some i)=(i:Int) from rfl,bif_dec,if_pos bo%,if_pos bo%,if_pos bo%]
    simp only[hw,Int.toNat_natCast,getD_get dCookie hx]
    have hlen:(l.take i++l.drop (i+1)).length≤10:=by simp;omega
    rw[if_pos bo%,if_pos bo%,if_pos bo%,if_pos bo%,if_pos (ap_le (by simp only[List.length_append] at hlen ⊢;simp only[List.length_cons,List.length_nil];omega)),if_pos (by simp only[List.length_append] at hlen ⊢;simp only[List.length_cons,List.length_nil];omega)]
    exact put_tail bo% (q:=(l.take i++l.drop (i+1))++[withMade c (madeC x)]) (by simp only[List.length_append] at hlen ⊢;simp only[List.length_cons,List.length_nil];omega) hP now
noncomputable def setJ (l:List TCookie) (u:TUrl) (t:Bs) (now:Int):List TCookie×Int:=if okJar l=true then (if (getU u t now).2=0 then (putJ l (getU u t now).1 now,0) else (l,(getU u t now).2)) else ([],1)
theorem impl_JarSet_ok {n:Nat} (hn:4194304+36≤n) {l:List TCookie} {u:TUrl} (B:BJ l) (hu:BU u) (t:Bs) (now:Int):ci_JarSet n l u t now=some ((setJ l u t now).1,(setJ l u t now).2,()):=by
 obtain ⟨m,rfl⟩:=sn hn
 rw[ei_JarSet];unfold mi_JarSet setJ
 rw[impl_JarOk_ok bo% B]
 simp only[Option.bind_some]
 cases hok:okJar l with
 | false=>rfl
 | true =>
  have hJ:=(okJar_iff l).1 hok
  have hK:=bkc (getU_bk (u:=u) t now)
  simp only[Bool.not_true,cond_false,impl_CookieGet_ok (n:=m) bo% hu,Option.bind_some,if_true,bif_ndec]
  by_cases h0:(getU u t now).2=0
  ·rw[if_pos h0,if_pos h0,impl_JarPut_ok bo% B hK now];rfl
  ·rw[if_neg h0,if_neg h0,cloneC_ok bo% bo%];rfl
theorem spec_JarSet_ok {n:Nat} (hn:4194304+36≤n) {l:List TCookie} {u:TUrl} (B:BJ l) (hu:BU u) (t:Bs) (now:Int):cs_JarSet n l u t now=some ((setJ l u t now).1,(setJ l u t now).2,()):=by
 obtain ⟨m,rfl⟩:=sn hn
 rw[es_JarSet];unfold ms_JarSet setJ
 rw[spec_JarOk_ok bo% B]
 simp only[Option.bind_some]
 cases hok:okJar l with
 | false=>rfl
 | true =>
  have hJ:=(okJar_iff l).1 hok
  have hl:l.length≤10:=hJ.2
  simp only[Bool.not_true,cond_false,spec_CookieGet_ok (n:=m) bo% hu,Option.bind_some,if_true,bif_ndec]
  by_cases h0:(getU u t now).2=0
  ·have hoc:=(getU_zero h0).2.2.1
   rw[if_pos h0,if_pos h0,l7Put_ok bo% hl hJ.1.one hoc now]
   unfold putJ
   rw[if_pos hok,if_pos hoc];rfl
  ·rw[if_neg h0,if_neg h0,grd_dec,if_pos (ap_le (by simp;omega))];rfl
theorem guCookie_refl {n:Nat} (hn:4194304+1≤n) {l:List TCookie} (hl:l.length≤4000000):cl_guCookie n l l=some (true,()):=by
 obtain ⟨m,rfl⟩:=sn hn
 rw[el_guCookie];unfold ml_guCookie
 rw[bif_ndec,if_pos rfl]
 refine loopS l (fun _ i st r=>st=((i:Int),())∧r=(true,())) ?_ ?_ ⟨rfl,rfl⟩ bo%
 ·rintro st r self ⟨rfl,rfl⟩
  unfold ml_guCookie.l0
  simp only[bif_dec]
  rw[if_neg bo%]
 ·rintro c L i st r self _ hi hx ⟨rfl,rfl⟩ ih
  unfold ml_guCookie.l0
  simp only[bif_dec,grd_dec,Int.toNat_natCast,getD_get dCookie hx,same_self,Bool.not_true,cond_false,w_i (show i≤4000000 by omega)]
  rw[if_pos bo%,if_pos bo%,if_pos bo%,if_pos bo%,if_pos bo%]
  exact ih _ ⟨rfl,rfl⟩
end Go.VM.T
namespace Go.VM.T
open Go Go.VM
theorem setJ_bj {l:List TCookie} (B:BJ l) (u:TUrl) (t:Bs) (now:Int):BJ (setJ l u t now).1:=by
 unfold setJ
 split
 ·split
  ·exact putJ_bj B (bkc (getU_bk t now)) now
  ·exact B
 ·exact BJ.nil
theorem DrawJarSet_ok {n:Nat} (hn:4194304+40≤n) {code:List Int} (hl:code.length≤1048576) (hc:∀x∈code,0≤x∧x≤255):∃l u t now,cs_DrawJarSet n code=some (l,u,t,now,())∧BJ l∧BU u:=by
 obtain ⟨m,rfl⟩:=sn hn
 rw[es_DrawJarSet];unfold ms_DrawJarSet
 obtain ⟨b,B,e0⟩:=open_ok (n:=m) bo% hl hc
 obtain ⟨l,q,e1,a1,a2,hJ⟩:=anyjar_dr (n:=m) (p:=0) bo% B bo% bo%
 obtain ⟨u,q1,e2,b1,b2,hU⟩:=anyhome_dr (n:=m) (p:=q) bo% B bo% bo%
 obtain ⟨t,q2,e3,c1,c2,_⟩:=says_dr (n:=m) (p:=q1) bo% B bo% bo%
 obtain ⟨now,q3,e4,d1,d2,_⟩:=now_dr (n:=m) (p:=q2) bo% B bo% bo%
 exact ⟨l,u,t,now,by simp only[e0,e1,e2,e3,e4,Option.bind_some],hJ.1,hU.sm.bu⟩
theorem law_FnJarSet {n:Nat} (hn:4194304+60≤n) {code:List Int} (hc:∀x∈code,0≤x∧x≤255):cl_FnJarSet n code=some (true,()):=by
 obtain ⟨m,rfl⟩:=sn hn
 rw[el_FnJarSet];unfold ml_FnJarSet
 rw[bif_dec]
 split
 ·rfl
 rename_i hl
 obtain ⟨l,u,t,now,ed,B,hU⟩:=DrawJarSet_ok (n:=m) (code:=code) bo% bo% hc
 have hS:=setJ_bj B u t now
 have hSl:=hS.len
 have hK:=bkc (getU_bk (u:=u) t now)
 simp only[ed,impl_JarSet_ok (n:=m) bo% B hU,spec_JarSet_ok (n:=m) bo% B hU,spec_JarOk_ok (n:=m) bo% B,guCookie_refl (n:=m) bo% (show (setJ l u t now).1.length≤4000000 by omega),Option.bind_some,decide_true,Bool.not_true,cond_false,cond_true,impl_CookieGet_ok (n:=m) bo% hU]
 cases hok:okJar l with
 | false=>rfl
 | true =>
 simp only[Bool.not_true,cond_false,bif_ndec]
 by_cases h0:(getU u t now).2=0
 ·have e:setJ l u t now=(putJ l (getU u t now).1 now,0):=by unfold setJ;rw[if_pos hok,if_pos h0]
  rw[e] at hSl ⊢
  rw[if_pos rfl,bif_dec,if_pos h0,impl_JarPut_ok bo% B hK now,Option.bind_some,guCookie_refl bo% (by dsimp only at hSl ⊢;omega)]
  rfl
 ·have e:setJ l u t now=(l,(getU u t now).2):=by unfold setJ;rw[if_pos hok,if_neg h0]
  rw[e] at hSl ⊢
  rw[if_neg h0,guCookie_refl bo% (by dsimp only at hSl ⊢;omega)]
  simp
end Go.VM.T
