/- The plain law: what the models compute answers as the statement says. -/
import Derived.Test.YtpfnljkjjnnliaaGreatDoorR7
import Derived.Test.YtpfnljkjjnnliaaGreatDoorR4
local macro "bo%" : term => `(by omega)
set_option linter.unusedVariables false
set_option linter.unusedSimpArgs false
namespace Go.VM.T
open Go Go.VM
structure BJ (l:List TCookie):Prop where
 len:l.length≤1100000
 ck:∀c∈l,BC c
theorem BJ.get {l:List TCookie} (B:BJ l) {i:Nat} {c:TCookie} (h:l[i]? = some c):BC c:=B.ck c (List.mem_of_getElem? h)
theorem BJ.sub {l l':List TCookie} (B:BJ l) (h:l'.Sublist l):BJ l':=⟨Nat.le_trans h.length_le B.len,fun c hc=>B.ck c (h.subset hc)⟩
theorem BJ.snoc {l:List TCookie} (B:BJ l) {c:TCookie} (hc:BC c) (hl:l.length≤999):BJ (l++[c]):=⟨by simp;omega,fun x hx=>by
 rcases List.mem_append.1 hx with hx | hx
 ·exact B.ck x hx
 ·rw[List.mem_singleton.1 hx];exact hc⟩
theorem BJ.nil:BJ []:=⟨by simp,by simp⟩
theorem twin_go (a b:TCookie):(bif (a.1==b.1) then (bif (a.2.2.1==b.2.2.1) then (bif (a.2.2.2.1==b.2.2.2.1) then (some ((a.2.2.2.2.1==b.2.2.2.2.1),())) else (some (false,()))) else (some (false,()))) else (some (false,()):Option (Bool×Unit)))=some (twin a b,()):=by
 unfold twin
 rw[←beq_d,←beq_d,←beq_d,←beq_d]
 cases (a.1==b.1) <;> cases (a.2.2.1==b.2.2.1) <;> cases (a.2.2.2.1==b.2.2.2.1) <;> rfl
theorem l7Same_ok {n:Nat} (hn:4194304+1≤n) (a b:TCookie):cs_l7Same n a b=some (twin a b,()):=by
 obtain ⟨m,rfl⟩:=sn hn
 rw[es_l7Same];exact twin_go a b
theorem twin_ok {n:Nat} (hn:4194304+1≤n) (a b:TCookie):ci_Cookie_twin n a b=some (twin a b,()):=by
 obtain ⟨m,rfl⟩:=sn hn
 rw[ei_Cookie_twin];exact twin_go a b
theorem preJ_nil:PreJ []:=⟨by simp,by simp⟩
theorem okJar_pre {l:List TCookie} (P:PreJ l):okJar l=decide (l.length≤10):=by
 by_cases h:l.length≤10
 ·rw[decide_eq_true h,(okJar_iff l).2 ⟨P,h⟩]
 ·rw[decide_eq_false h,(okJar_false l).2 (fun k=>h k.2)]
theorem okJar_bad {l:List TCookie} {i:Nat} (h:¬PreJ (l.take i)):okJar l=false:=(okJar_false l).2 fun k=>h (k.1.sub (List.take_sublist i l))
theorem impl_JarOk_ok {n:Nat} (hn:4194304+26≤n) {l:List TCookie} (B:BJ l):ci_JarOk n l=some (okJar l,()):=by
 obtain ⟨m,rfl⟩:=sn hn
 rw[ei_JarOk];unfold mi_JarOk
 have hlen:=B.len
 refine loopS l (fun _ i st r=>PreJ (l.take i)∧r=(okJar l,())∧st=((i:Int),())) ?_ ?_ ⟨by simpa using preJ_nil,rfl,rfl⟩ bo%
 ·rintro st r self ⟨P,rfl,rfl⟩
  rw[List.take_length] at P
  unfold mi_JarOk.l0
  simp only[bif_dec]
  rw[if_neg bo%,okJar_pre P]
  congr 2
  rw[decide_eq_decide];omega
 ·rintro e L i st r self _ hi hx ⟨P,rfl,rfl⟩ ih
  unfold mi_JarOk.l0
  have hN:=preJ_next hx P
  have hbad:¬(okCookie e=true∧∀a∈l.take i,twin a e=false)→some (false,())=some (okJar l,()):=fun h=>by rw[okJar_bad (fun k=>h (hN.1 k))]
  have k1:(0:Int)≤(i:Int):=by omega
  have k2:(i:Int)<(l.length:Int):=by omega
  have k3:(i:Int)≤(l.length:Int):=by omega
  have k4:(l.take i).length≤9223372036854775807:=by simp;omega
  simp only[bif_dec,grd_dec,Int.toNat_natCast,getD_get dCookie hx,k1,k2,k3,if_true,impl_CookieOk_ok (n:=m) bo% (B.get hx),Option.bind_some,List.drop_zero,k4]
  cases hc:okCookie e with
  | false=>exact hbad fun h=>by rw[h.1] at hc;cases hc
  | true =>
  simp only[Bool.not_true,cond_false]
  rw[idxM_all (f:=fun z=>twin e z) (fun z _=>by rw[twin_ok bo%];rfl)]
  simp only[Option.bind_some,List.findIdx?_isSome]
  cases ha:(l.take i).any fun z=>twin e z with
  | true =>
   obtain ⟨z,hz,ht⟩:=List.any_eq_true.1 ha
   exact hbad fun h=>by rw[twin_comm,h.2 z hz] at ht;cases ht
  | false =>
   simp only[cond_false,w_i (show i≤4000000 by omega)]
   refine ih _ ⟨hN.2 ⟨hc,fun a h=>?_⟩,rfl,rfl⟩
   rw[twin_comm]
   simpa using List.any_eq_false.1 ha a h
theorem twins_in {m:Nat} {l:List TCookie} {i:Nat} {e:TCookie} (hx:l[i]? = some e) (hl:l.length≤1100000) (hm:4194304+1≤m) (f:(Int×Unit)→Option (Bool×Unit)) (r:Bool×Unit)
  (h1:(∃a∈l.take i,twin a e=true)→r=(false,())) (h2:(∀a∈l.take i,twin a e=false)→f (((i+1:Nat):Int),())=some r):loopR (ms_JarOk.l0 m ((i:Int),()) l f) m ((0:Int),())=some r:=by
 have hi:=(List.getElem?_eq_some_iff.1 hx).1
 refine loopS (l.take i) (fun _ j st r'=>r'=r∧st=((j:Int),())∧∀a∈l.take j,twin a e=false) ?_ ?_ ⟨rfl,rfl,by simp⟩ (by simp;omega)
 ·rintro st r' self ⟨rfl,rfl,h⟩
  have hli:(l.take i).length=i:=by simp;omega
  rw[hli] at h ⊢
  unfold ms_JarOk.l0
  simp only[bif_dec]
  rw[if_neg bo%,w_i bo%]
  exact h2 h
 ·rintro a L j st r' self _ hj hy ⟨rfl,rfl,h⟩ ih
  have hji:j<i:=by simp at hj;omega
  have hy':l[j]? = some a:=by rw[List.getElem?_take,if_pos hji] at hy;exact hy
  unfold ms_JarOk.l0
  simp only[bif_dec,grd_dec,Int.toNat_natCast,getD_get dCookie hx,getD_get dCookie hy']
  rw[if_pos bo%,if_pos bo%,if_pos bo%,if_pos bo%,if_pos bo%,l7Same_ok bo%,twin_comm]
  simp only[Option.bind_some]
  cases c:twin a e with
  | true=>rw[h1 ⟨a,mem_take.2 ⟨j,hji,hy'⟩,c⟩];rfl
  | false =>
   simp only[cond_false,w_i (show j≤4000000 by omega)]
   refine ih _ ⟨rfl,rfl,fun b hb=>?_⟩
   rw[take_snoc hy'] at hb
   rcases List.mem_append.1 hb with hb | hb
   ·exact h b hb
   ·rw[List.mem_singleton.1 hb];exact c
theorem spec_JarOk_ok {n:Nat} (hn:4194304+26≤n) {l:List TCookie} (B:BJ l):cs_JarOk n l=some (okJar l,()):=by
 obtain ⟨m,rfl⟩:=sn hn
 rw[es_JarOk];unfold ms_JarOk
 have hlen:=B.len
 refine loopS l (fun _ i st r=>PreJ (l.take i)∧r=(okJar l,())∧st=((i:Int),())) ?_ ?_ ⟨by simpa using preJ_nil,rfl,rfl⟩ bo%
 ·rintro st r self ⟨P,rfl,rfl⟩
  rw[List.take_length] at P
  unfold ms_JarOk.l1
  simp only[bif_dec]
  rw[if_neg bo%,okJar_pre P]
  congr 2
  rw[decide_eq_decide];omega
 ·rintro e L i st r self _ hi hx ⟨P,rfl,rfl⟩ ih
  unfold ms_JarOk.l1
  have hN:=preJ_next hx P
  have hbad:¬(okCookie e=true∧∀a∈l.take i,twin a e=false)→some (false,())=some (okJar l,()):=fun h=>by rw[okJar_bad (fun k=>h (hN.1 k))]
  have k1:(0:Int)≤(i:Int):=by omega
  have k2:(i:Int)<(l.length:Int):=by omega
  simp only[bif_dec,grd_dec,Int.toNat_natCast,getD_get dCookie hx,k1,k2,if_true,spec_CookieOk_ok (n:=m) bo% (B.get hx),Option.bind_some]
  cases hc:okCookie e with
  | false=>exact hbad fun h=>by rw[h.1] at hc;cases hc
  | true =>
  simp only[Bool.not_true,cond_false]
  refine twins_in hx hlen bo% self _ (fun ⟨a,ha,ht⟩=>?_) fun h=>ih _ ⟨hN.2 ⟨hc,h⟩,rfl,rfl⟩
  have:=hbad fun h=>by rw[h.2 a ha] at ht;cases ht
  simpa using this.symm
end Go.VM.T
namespace Go.VM.T
open Go Go.VM
def withMade (c:TCookie) (t:Int):TCookie:=(c.1,c.2.1,c.2.2.1,c.2.2.2.1,c.2.2.2.2.1,c.2.2.2.2.2.1,c.2.2.2.2.2.2.1,c.2.2.2.2.2.2.2.1,t,())
def madeC (c:TCookie):Int:=c.2.2.2.2.2.2.2.2.1
theorem okC_made {c:TCookie} (h:okCookie c=true):0≤madeC c∧madeC c≤1000000:=by
 simp only[okCookie,Bool.and_eq_true,decide_eq_true_eq] at h
 exact h.2.2.2.2.2.2.2.2.1
theorem okC_with {c:TCookie} (h:okCookie c=true) {t:Int} (h0:0≤t) (h1:t≤1000000):okCookie (withMade c t)=true:=by
 simp only[okCookie,Bool.and_eq_true] at h ⊢
 obtain ⟨a1,a2,a3,a4,a5,a6,a7,a8,a9,a10,a11⟩:=h
 exact ⟨a1,a2,a3,a4,a5,a6,a7,a8,decide_eq_true ⟨h0,h1⟩,a10,a11⟩
theorem twin_with (x c:TCookie) (t:Int):twin x (withMade c t)=twin x c:=rfl
theorem BC.with {c:TCookie} (B:BC c) (t:Int):BC (withMade c t):=⟨B.name,B.val,B.dom⟩
def madeJ:List TCookie→TCookie→TCookie
 | [],c=>c
 | x :: l,c=>madeJ l (if twin x c=true then withMade c (madeC x) else c)
theorem madeJ_with:∀(l:List TCookie) (c:TCookie),∃t,madeJ l c=withMade c t∧(t=madeC c∨∃x∈l,t=madeC x)
 | [],c=>⟨madeC c,rfl,.inl rfl⟩
 | x :: l,c=>by
  obtain ⟨t,h1,h2⟩:=madeJ_with l (if twin x c=true then withMade c (madeC x) else c)
  unfold madeJ
  split at h1
  ·rename_i hx
   rw[if_pos hx] at h2 ⊢
   refine ⟨t,h1,?_⟩
   rcases h2 with h2 | ⟨y,hy,h2⟩
   ·exact .inr ⟨x,List.mem_cons_self ..,h2⟩
   ·exact .inr ⟨y,List.mem_cons_of_mem _ hy,h2⟩
  ·rename_i hx
   rw[if_neg hx] at h2 ⊢
   refine ⟨t,h1,?_⟩
   rcases h2 with h2 | ⟨y,hy,h2⟩
   ·exact .inl h2
   ·exact .inr ⟨y,List.mem_cons_of_mem _ hy,h2⟩
def putL (l:List TCookie) (c:TCookie):List TCookie:=(l.filter fun x=>!twin x c)++[madeJ l c]
def cleanL (l:List TCookie) (now:Int):List TCookie:=l.filter fun c=>!overM c now
theorem l7Clean_ok {n:Nat} (hn:4194304+2≤n) {l:List TCookie} (hl:l.length≤1000) (h:∀c∈l,okCookie c=true) (now:Int):cs_l7Clean n l now false=some (cleanL l now,()):=by
 obtain ⟨m,rfl⟩:=sn hn
 rw[es_l7Clean];unfold ms_l7Clean
 refine loopS l (fun _ i st r=>r=(cleanL l now,())∧st=(cleanL (l.take i) now,(i:Int),())) ?_ ?_ ⟨rfl,rfl⟩ bo%
 ·rintro st r self ⟨rfl,rfl⟩
  unfold ms_l7Clean.l0
  simp only[bif_dec]
  rw[if_neg bo%,List.take_length]
 ·rintro c L i st r self _ hi hx ⟨rfl,rfl⟩ ih
  unfold ms_l7Clean.l0
  have k1:(0:Int)≤(i:Int):=by omega
  have k2:(i:Int)<(l.length:Int):=by omega
  have hcl:(cleanL (l.take i) now).length≤1000:=Nat.le_trans (List.length_filter_le _ _) (by simp;omega)
  have k3:(cleanL (l.take i) now).length+([c]:List TCookie).length≤appBound:=ap_le (by simp;omega)
  have hs:cleanL (l.take (i+1)) now=cleanL (l.take i) now++(if overM c now=true then [] else [c]):=by
   unfold cleanL
   rw[take_snoc hx,List.filter_append]
   congr 1
   cases hq:overM c now <;> simp[hq]
  simp only[bif_dec,grd_dec,Int.toNat_natCast,getD_get dCookie hx,k1,k2,k3,if_true,l7Over_ok (n:=m) bo% (h c (List.mem_of_getElem? hx)),Option.bind_some,cond_false,w_i (show i≤4000000 by omega)]
  refine (?_:(bif !overM c now then _ else _)=_)
  cases ho:overM c now with
  | true =>
   rw[ho] at hs
   exact ih _ ⟨rfl,by rw[hs];simp⟩
  | false =>
   rw[ho] at hs
   exact ih _ ⟨rfl,by rw[hs];simp⟩
def CutOf (q r:List TCookie):Prop:=r.Sublist q∧r.length≤10∧(q.length≤10→r=q)
theorem putL_bj {l:List TCookie} {c:TCookie} (B:BJ l) (hl:l.length≤10) (hc:BC c):BJ (putL l c):=by
 obtain ⟨t,h1,_⟩:=madeJ_with l c
 unfold putL
 rw[h1]
 exact (B.sub List.filter_sublist).snoc (hc.with t) (Nat.le_trans (List.length_filter_le _ _) bo%)
end Go.VM.T
namespace Go.VM.T
open Go Go.VM
theorem twin_iff {a b:TCookie}:twin a b=true↔(a.1=b.1∧a.2.2.1=b.2.2.1∧a.2.2.2.1=b.2.2.2.1∧a.2.2.2.2.1=b.2.2.2.2.1):=by
 unfold twin;simp only[Bool.and_eq_true,decide_eq_true_eq]
theorem twin_tr {a b c:TCookie} (h1:twin a c=true) (h2:twin b c=true):twin a b=true:=by
 rw[twin_iff] at *
 obtain ⟨a1,a2,a3,a4⟩:=h1
 obtain ⟨b1,b2,b3,b4⟩:=h2
 exact ⟨a1.trans b1.symm,a2.trans b2.symm,a3.trans b3.symm,a4.trans b4.symm⟩
theorem madeJ_app:∀(A L:List TCookie) (c:TCookie),madeJ (A++L) c=madeJ L (madeJ A c)
 | [],_,_=>rfl
 | x :: A,L,c=>by rw[List.cons_append,madeJ,madeJ,madeJ_app]
theorem madeJ_none:∀ {A:List TCookie} {c:TCookie},(∀x∈A,twin x c=false)→madeJ A c=c
 | [],_,_=>rfl
 | x :: A,c,h=>by
  rw[madeJ,if_neg (by rw[h x (by simp)];simp)]
  exact madeJ_none fun y hy=>h y (by simp[hy])
theorem filter_none {A:List TCookie} {c:TCookie} (h:∀x∈A,twin x c=false):A.filter (fun x=>!twin x c)=A:=List.filter_eq_self.2 fun x hx=>by rw[h x hx];rfl
theorem put_at {l:List TCookie} {c:TCookie} (P:PreJ l) {i:Nat} (h:l.findIdx? (fun z=>twin c z)=some i):∃x,l[i]? = some x∧twin x c=true∧putL l c=(l.take i++l.drop (i+1))++[withMade c (madeC x)]:=by
 rw[List.findIdx?_eq_some_iff_getElem] at h
 obtain ⟨hi,h1,h2⟩:=h
 have hx:l[i]? = some l[i]:=List.getElem?_eq_getElem hi
 generalize l[i]=x at hx h1
 have hA:∀a∈l.take i,twin a c=false:=fun a ha=>by
  obtain ⟨j,hj,e⟩:=mem_take.1 ha
  have:=h2 j hj
  obtain ⟨hjl,e⟩:=List.getElem?_eq_some_iff.1 e
  rw[e] at this
  rw[twin_comm];simpa using this
 have hxc:twin x c=true:=by rw[twin_comm];exact h1
 have hs:l=l.take i++x :: l.drop (i+1):=by
  obtain ⟨hil,e⟩:=List.getElem?_eq_some_iff.1 hx
  conv=>lhs;rw[←List.take_append_drop i l,List.drop_eq_getElem_cons hil,e]
 have hB:∀b∈l.drop (i+1),twin b c=false:=fun b hb=>by
  have hp:=P.two
  rw[hs,List.pairwise_append] at hp
  have:=(List.pairwise_cons.1 hp.2.1).1 b hb
  cases q:twin b c with
  | false=>rfl
  | true=>rw[twin_tr hxc q] at this;cases this
 refine ⟨x,hx,hxc,?_⟩
 have e1:l.filter (fun z=>!twin z c)=l.take i++l.drop (i+1):=by
  conv=>lhs;rw[hs]
  rw[List.filter_append,filter_none hA,List.filter_cons,hxc,filter_none hB];rfl
 have e2:madeJ l c=withMade c (madeC x):=by
  conv=>lhs;rw[hs]
  rw[madeJ_app,madeJ_none hA,madeJ,if_pos hxc]
  exact madeJ_none fun b hb=>by rw[twin_with];exact hB b hb
 unfold putL
 rw[e1,e2]
theorem put_none' {l:List TCookie} {c:TCookie} (h:l.findIdx? (fun z=>twin c z)=none):putL l c=l++[c]:=by
 rw[List.findIdx?_eq_none_iff] at h
 have hA:∀a∈l,twin a c=false:=fun a ha=>by rw[twin_comm];simpa using h a ha
 unfold putL
 rw[filter_none hA,madeJ_none hA]
def minGo (q:List TCookie):List TCookie→Nat→Nat→Nat
 | [],_,k=>k
 | x :: L,i,k=>minGo q L (i+1) (if madeC x<madeC (q.getD k dCookie) then i else k)
theorem minGo_lt {q:List TCookie}:∀(L:List TCookie) (i k:Nat),i+L.length=q.length→k<q.length→minGo q L i k<q.length
 | [],_,_,_,h=>h
 | x :: L,i,k,hi,h=>by
  rw[minGo]
  refine minGo_lt L (i+1) _ (by simp at hi;omega) ?_
  split
  ·simp at hi;omega
  ·exact h
def cutJ (q:List TCookie):List TCookie:=if q.length≤10 then q else q.eraseIdx (minGo q q 0 0)
theorem cutJ_cut {q:List TCookie} (hq:q.length≤11):CutOf q (cutJ q):=by
 unfold cutJ
 split
 ·rename_i h;exact ⟨List.Sublist.refl _,h,fun _=>rfl⟩
 ·rename_i h
  have:=minGo_lt (q:=q) q 0 0 bo% bo%
  refine ⟨List.eraseIdx_sublist ..,?_,fun h'=>absurd h' h⟩
  rw[List.length_eraseIdx,if_pos this];omega
noncomputable def putJ (l:List TCookie) (c:TCookie) (now:Int):List TCookie:=if okJar l=true then (if okCookie c=true then cutJ (cleanL (putL l c) now) else l) else []
theorem keepM_all {α:Type} {p:α→Option Bool} {f:α→Bool}:∀ {l:List α},(∀z∈l,p z=some (f z))→keepM p l=some (l.filter fun z=>!f z)
 | [],_=>rfl
 | x :: l,h=>by
  have ih:=keepM_all (p:=p) (f:=f) (l:=l) fun z hz=>h z (List.mem_cons_of_mem _ hz)
  simp only[keepM,h x (List.mem_cons_self ..),ih,List.filter_cons]
  cases f x <;> rfl
theorem cut_go {n:Nat} {q:List TCookie} (hq:q.length≤11):∀(L:List TCookie) (m i k:Nat),L.length<m→q.drop i=L→i≤q.length→k<q.length→loopR (ms_l7Put.l0 n (q,())) m ((k:Int),(i:Int),())=some (q.eraseIdx (minGo q L i k),())
 | L,0,_,_,h,_,_,_=>absurd h (Nat.not_lt_zero _)
 | [],m+1,i,k,_,hd,hi,hk=>by
  have hi':i=q.length:=by have:=congrArg List.length hd;simp at this;omega
  show ms_l7Put.l0 n (q,()) (loopR (ms_l7Put.l0 n (q,())) m) _=_
  generalize loopR (ms_l7Put.l0 n (q,())) m=G
  unfold ms_l7Put.l0
  have hw:IntKind.i64.wrap ((k:Int)+1)=((k+1:Nat):Int):=by rw[w64 bo% bo%];omega
  simp only[bif_dec,grd_dec,hw]
  rw[if_neg bo%,if_pos bo%,if_pos bo%,if_pos (ap_le (by simp;omega)),if_pos bo%,if_pos bo%,if_pos (ap_le (by simp;omega))]
  have e:([]++((q.take (k:Int).toNat).drop 0))++((q.take q.length).drop ((k+1:Nat):Int).toNat)=q.eraseIdx k:=by
   rw[List.eraseIdx_eq_take_drop_succ,List.take_length,Int.toNat_natCast,Int.toNat_natCast];simp
  rw[minGo]
  exact congrArg some (congrArg (fun z=>(z,())) e)
 | x :: L,m+1,i,k,hm,hd,hi,hk=>by
  have hil:i<q.length:=by have:=congrArg List.length hd;simp at this;omega
  have hx:q[i]? = some x:=by rw[←List.head?_drop,hd];rfl
  have hd':q.drop (i+1)=L:=by rw[←List.tail_drop,hd];rfl
  have hqk:q[k]? = some (q.getD k dCookie):=by rw[List.getD_eq_getElem?_getD,List.getElem?_eq_getElem hk];rfl
  show ms_l7Put.l0 n (q,()) (loopR (ms_l7Put.l0 n (q,())) m) _=_
  have ih1:=cut_go (n:=n) hq L m (i+1) i (by simp at hm;omega) hd' bo% hil
  have ih2:=cut_go (n:=n) hq L m (i+1) k (by simp at hm;omega) hd' bo% hk
  generalize loopR (ms_l7Put.l0 n (q,())) m=G at ih1 ih2
  unfold ms_l7Put.l0
  simp only[bif_dec,grd_dec,Int.toNat_natCast,getD_get dCookie hx,w_i (show i≤4000000 by omega)]
  rw[if_pos bo%,if_pos bo%,if_pos bo%,if_pos bo%,if_pos bo%,minGo]
  unfold madeC
  split
  ·exact ih1
  ·exact ih2
theorem minGo_one (q:List TCookie):minGo q q 0 0=minGo q (q.drop 1) 1 0:=by
 cases q with
 | nil=>rfl
 | cons x L =>
  rw[minGo,if_neg (by simp)];rfl
theorem okM {l:List TCookie} {c:TCookie} (h:∀x∈l,okCookie x=true) (hc:okCookie c=true):∀x∈putL l c,okCookie x=true:=fun x hx=>by
 unfold putL at hx
 rcases List.mem_append.1 hx with hx | hx
 ·exact h x (List.mem_filter.1 hx).1
 ·rw[List.mem_singleton.1 hx]
  obtain ⟨t,h1,h2⟩:=madeJ_with l c
  rw[h1]
  rcases h2 with rfl | ⟨y,hy,rfl⟩
  ·exact okC_with hc (okC_made hc).1 (okC_made hc).2
  ·exact okC_with hc (okC_made (h y hy)).1 (okC_made (h y hy)).2
theorem putL_len (l:List TCookie) (c:TCookie):(putL l c).length≤l.length+1:=by
 unfold putL
 have:=List.length_filter_le (fun x=>!twin x c) l
 simp;omega
theorem l7Put_ok {n:Nat} (hn:4194304+3≤n) {l:List TCookie} {c:TCookie} (hl:l.length≤10) (h:∀x∈l,okCookie x=true) (hc:okCookie c=true) (now:Int):cs_l7Put n l c now=some (cutJ (cleanL (putL l c) now),()):=by
 obtain ⟨m,rfl⟩:=sn hn
 rw[es_l7Put];unfold ms_l7Put
 have hq:(cleanL (putL l c) now).length≤11:=Nat.le_trans (List.length_filter_le _ _) (by have:=putL_len l c;omega)
 refine loopS l (fun L i st r'=>r'=(cutJ (cleanL (putL l c) now),())∧∃t,st=((l.take i).filter (fun x=>!twin x c),(i:Int),withMade c t,())∧madeJ L (withMade c t)=madeJ l c) ?_ ?_ ⟨rfl,madeC c,rfl,rfl⟩ bo%
 ·rintro st r' self ⟨rfl,t,rfl,ht⟩
  unfold ms_l7Put.l1
  simp only[bif_dec,grd_dec]
  rw[if_neg bo%,List.take_length,show withMade c t=madeJ l c from ht,if_pos (ap_le (by have:=List.length_filter_le (fun x=>!twin x c) l;simp;omega))]
  have hcl:=l7Clean_ok (n:=m) bo% (l:=putL l c) (by have:=putL_len l c;omega) (okM h hc) now
  unfold putL at hcl hq ⊢
  rw[hcl]
  simp only[Option.bind_some]
  unfold cutJ
  split
  ·rw[if_pos bo%]
  ·rw[if_neg bo%,minGo_one]
   exact cut_go hq _ m 1 0 (by simp;omega) rfl bo% bo%
 ·rintro x L i st r' self _ hi hx ⟨rfl,t,rfl,ht⟩ ih
  unfold ms_l7Put.l1
  have k1:(0:Int)≤(i:Int):=by omega
  have k2:(i:Int)<(l.length:Int):=by omega
  have k3:((l.take i).filter fun x=>!twin x c).length+([x]:List TCookie).length≤appBound:=ap_le (by have:=List.length_filter_le (fun x=>!twin x c) (l.take i);simp at this ⊢;omega)
  have hs:(l.take (i+1)).filter (fun x=>!twin x c)=(l.take i).filter (fun x=>!twin x c)++(if twin x c=true then [] else [x]):=by
   rw[take_snoc hx,List.filter_append]
   congr 1
   cases hq:twin x c <;> simp[hq]
  simp only[bif_dec,grd_dec,Int.toNat_natCast,getD_get dCookie hx,k1,k2,k3,if_true,l7Same_ok (n:=m) bo%,Option.bind_some,w_i (show i≤4000000 by omega),twin_with]
  have e:madeJ (x :: L) (withMade c t)=madeJ L (if twin x c=true then withMade c (madeC x) else withMade c t):=rfl
  rw[e] at ht
  cases hw:twin x c with
  | true =>
   rw[hw] at hs ht
   exact ih _ ⟨rfl,madeC x,by rw[hs];simp[withMade,madeC],by rw[←ht,if_pos rfl]⟩
  | false =>
   rw[hw] at hs ht
   exact ih _ ⟨rfl,t,by rw[hs];simp,by rw[←ht,if_neg (by simp)]⟩
theorem putJ_bj {l:List TCookie} {c:TCookie} (B:BJ l) (hc:BC c) (now:Int):BJ (putJ l c now):=by
 unfold putJ
 split
 ·rename_i hok
  have hJ:=(okJar_iff l).1 hok
  split
  ·have hq:(cleanL (putL l c) now).length≤11:=Nat.le_trans (List.length_filter_le _ _) (by have:=putL_len l c;omega)
   exact (putL_bj B hJ.2 hc).sub ((cutJ_cut hq).1.trans List.filter_sublist)
  ·exact B
 ·exact BJ.nil
end Go.VM.T
namespace Go.VM.T
open Go Go.VM
theorem cloneC_ok {n:Nat} (hn:4194304+1≤n) {l:List TCookie} (hl:l.length≤1000000):ci_clone_Cookie n l=some (l,()):=by
 obtain ⟨m,rfl⟩:=sn hn
 rw[ei_clone_Cookie];unfold x_slices_Clone
 rw[if_pos hl]
theorem put1_ok {n:Nat} (hn:4194304+2≤n) {c:TCookie} (h:okCookie c=true) (now:Int):((ci_JarPut_1 n c now).map fun o=>o.1)=some (overM c now):=by
 obtain ⟨m,rfl⟩:=sn hn
 rw[ei_JarPut_1];unfold mi_JarPut_1
 rw[expired_ok bo% h];rfl
theorem cut_goI {n:Nat} (hn:4194304+1≤n) {q:List TCookie} (hq:q.length≤11):∀(L:List TCookie) (m i k:Nat),L.length<m→q.drop i=L→i≤q.length→k<q.length→loopR (mi_JarPut.l0 n q) m ((k:Int),(i:Int),())=some (q.eraseIdx (minGo q L i k),())
 | L,0,_,_,h,_,_,_=>absurd h (Nat.not_lt_zero _)
 | [],m+1,i,k,_,hd,hi,hk=>by
  have hi':i=q.length:=by have:=congrArg List.length hd;simp at this;omega
  show mi_JarPut.l0 n q (loopR (mi_JarPut.l0 n q) m) _=_
  generalize loopR (mi_JarPut.l0 n q) m=G
  unfold mi_JarPut.l0
  have hw:IntKind.i64.wrap ((k:Int)+1)=((k+1:Nat):Int):=by rw[w64 bo% bo%];omega
  simp only[bif_dec,grd_dec,hw,Int.toNat_natCast]
  rw[if_neg bo%,if_pos bo%,if_pos bo%,if_pos bo%,if_pos bo%,cloneC_ok hn (by simp;omega),←List.eraseIdx_eq_take_drop_succ]
  rfl
 | x :: L,m+1,i,k,hm,hd,hi,hk=>by
  have hil:i<q.length:=by have:=congrArg List.length hd;simp at this;omega
  have hx:q[i]? = some x:=by rw[←List.head?_drop,hd];rfl
  have hd':q.drop (i+1)=L:=by rw[←List.tail_drop,hd];rfl
  show mi_JarPut.l0 n q (loopR (mi_JarPut.l0 n q) m) _=_
  have ih1:=cut_goI (n:=n) hn hq L m (i+1) i (by simp at hm;omega) hd' bo% hil
  have ih2:=cut_goI (n:=n) hn hq L m (i+1) k (by simp at hm;omega) hd' bo% hk
  generalize loopR (mi_JarPut.l0 n q) m=G at ih1 ih2
  unfold mi_JarPut.l0
  simp only[bif_dec,grd_dec,Int.toNat_natCast,getD_get dCookie hx,w_i (show i≤4000000 by omega)]
  rw[if_pos bo%,if_pos bo%,if_pos bo%,if_pos bo%,if_pos bo%,minGo]
  unfold madeC
  split
  ·exact ih1
  ·exact ih2
theorem put_tail {n:Nat} (hn:4194304+2≤n) {q:List TCookie} (hq:q.length≤11) (hok:∀x∈q,okCookie x=true) (now:Int) :
  ((keepM (fun z=>(ci_JarPut_1 n z now).map fun o=>o.1) q).bind fun y6=>bif (decide ((10:Int)<(y6.length:Int))) then (loopR (mi_JarPut.l0 n y6) n ((0:Int),(0:Int),())) else ((ci_clone_Cookie n y6).bind fun y10=>some y10))=some (cutJ (cleanL q now),()):=by
 have hl:(cleanL q now).length≤11:=Nat.le_trans (List.length_filter_le _ _) hq
 rw[keepM_all (f:=fun c=>overM c now) (fun z hz=>put1_ok bo% (hok z hz) now)]
 simp only[Option.bind_some]
 change (bif (decide ((10:Int)<((cleanL q now).length:Int))) then (loopR (mi_JarPut.l0 n (cleanL q now)) n ((0:Int),(0:Int),())) else ((ci_clone_Cookie n (cleanL q now)).bind fun y10=>some y10))=_
 rw[bif_dec]
 unfold cutJ
 split
 ·rename_i h
  rw[if_neg bo%]
  exact cut_goI bo% hl _ n 0 0 bo% rfl bo% bo%
 ·rw[if_pos bo%,cloneC_ok bo% bo%];rfl
theorem jput_l1:mi_JarPut.l1=mi_JarPut.l0:=rfl
theorem impl_JarPut_ok {n:Nat} (hn:4194304+27≤n) {l:List TCookie} {c:TCookie} (B:BJ l) (hc:BC c) (now:Int):ci_JarPut n l c now=some (putJ l c now,()):=by
 obtain ⟨m,rfl⟩:=sn hn
 rw[ei_JarPut];unfold mi_JarPut putJ
 rw[impl_JarOk_ok bo% B]
 simp only[Option.bind_some]
 cases hok:okJar l with
 | false=>rfl
 | true =>
  have hJ:=(okJar_iff l).1 hok
  have hl:l.length≤10:=hJ.2
  simp only[Bool.not_true,cond_false,impl_CookieOk_ok (n:=m) bo% hc,Option.bind_some,if_true,jput_l1]
  cases hoc:okCookie c with
  | false =>
   rw[Bool.not_false,cond_true,cloneC_ok bo% bo%];rfl
  | true =>
   have hP:=okM hJ.1.one hoc
   have hPl:=putL_len l c
   simp only[Bool.not_true,cond_false,cloneC_ok (n:=m) bo% (show l.length≤1000000 by omega),Option.bind_some,if_true,grd_dec]
   rw[if_pos bo%,idxM_all (f:=fun z=>twin c z) (fun z _=>by rw[twin_ok bo%];rfl)]
   simp only[Option.bind_some]
   cases hf:l.findIdx? (fun z=>twin c z) with
   | none =>
    have hpl:=put_none' hf
    rw[hpl] at hP hPl ⊢
    rw[show idxV none = -1 from rfl,bif_dec,if_neg bo%,if_pos (ap_le (by simp;omega)),if_pos (by simp;omega)]
    exact put_tail bo% (by simp;omega) hP now
   | some i =>
    obtain ⟨x,hx,hxc,hpl⟩:=put_at hJ.1 hf
    have hi:=(List.getElem?_eq_some_iff.1 hx).1
    rw[hpl] at hP hPl ⊢
    have hw:IntKind.i64.wrap ((i:Int)+1)=((i+1:Nat):Int):=by rw[w64 bo% bo%];omega
    rw[show idxV (some i)=(i:Int) from rfl,bif_dec,if_pos bo%,if_pos bo%,if_pos bo%]
    simp only[hw,Int.toNat_natCast,getD_get dCookie hx]
    have hlen:(l.take i++l.drop (i+1)).length≤10:=by simp;omega
    rw[if_pos bo%,if_pos bo%,if_pos bo%,if_pos bo%,if_pos (ap_le (by simp only[List.length_append] at hlen ⊢;simp only[List.length_cons,List.length_nil];omega)),if_pos (by simp only[List.length_append] at hlen ⊢;simp only[List.length_cons,List.length_nil];omega)]
    exact put_tail bo% (q:=(l.take i++l.drop (i+1))++[withMade c (madeC x)]) (by simp only[List.length_append] at hlen ⊢;simp only[List.length_cons,List.length_nil];omega) hP now
noncomputable def setJ (l:List TCookie) (u:TUrl) (t:Bs) (now:Int):List TCookie×Int:=if okJar l=true then (if (getU u t now).2=0 then (putJ l (getU u t now).1 now,0) else (l,(getU u t now).2)) else ([],1)
theorem impl_JarSet_ok {n:Nat} (hn:4194304+36≤n) {l:List TCookie} {u:TUrl} (B:BJ l) (hu:BU u) (t:Bs) (now:Int):ci_JarSet n l u t now=some ((setJ l u t now).1,(setJ l u t now).2,()):=by
 obtain ⟨m,rfl⟩:=sn hn
 rw[ei_JarSet];unfold mi_JarSet setJ
 rw[impl_JarOk_ok bo% B]
 simp only[Option.bind_some]
 cases hok:okJar l with
 | false=>rfl
 | true =>
  have hJ:=(okJar_iff l).1 hok
  have hK:=bkc (getU_bk (u:=u) t now)
  simp only[Bool.not_true,cond_false,impl_CookieGet_ok (n:=m) bo% hu,Option.bind_some,if_true,bif_ndec]
  by_cases h0:(getU u t now).2=0
  ·rw[if_pos h0,if_pos h0,impl_JarPut_ok bo% B hK now];rfl
  ·rw[if_neg h0,if_neg h0,cloneC_ok bo% bo%];rfl
theorem spec_JarSet_ok {n:Nat} (hn:4194304+36≤n) {l:List TCookie} {u:TUrl} (B:BJ l) (hu:BU u) (t:Bs) (now:Int):cs_JarSet n l u t now=some ((setJ l u t now).1,(setJ l u t now).2,()):=by
 obtain ⟨m,rfl⟩:=sn hn
 rw[es_JarSet];unfold ms_JarSet setJ
 rw[spec_JarOk_ok bo% B]
 simp only[Option.bind_some]
 cases hok:okJar l with
 | false=>rfl
 | true =>
  have hJ:=(okJar_iff l).1 hok
  have hl:l.length≤10:=hJ.2
  simp only[Bool.not_true,cond_false,spec_CookieGet_ok (n:=m) bo% hu,Option.bind_some,if_true,bif_ndec]
  by_cases h0:(getU u t now).2=0
  ·have hoc:=(getU_zero h0).2.2.1
   rw[if_pos h0,if_pos h0,l7Put_ok bo% hl hJ.1.one hoc now]
   unfold putJ
   rw[if_pos hok,if_pos hoc];rfl
  ·rw[if_neg h0,if_neg h0,grd_dec,if_pos (ap_le (by simp;omega))];rfl
end Go.VM.T
namespace Go.VM.T
open Go Go.VM
theorem str1 (x:Int):(strOf [x]).length=1:=rfl
theorem mark_go:∀(k:Nat) (out:Bs),out.length+k≤90000000→∃t:Bs,∀(n m:Nat),k<2 ^ m→loopR (ml_markText.l0 n) (m+1) ((k:Int),out,())=some (t,())
 | 0,out,ho=>by
  refine ⟨[109]++out,fun n m hm=>?_⟩
  show ml_markText.l0 n (loopR (ml_markText.l0 n) m) _=_
  generalize loopR (ml_markText.l0 n) m=G
  unfold ml_markText.l0
  simp only[bif_dec,grd_dec]
  rw[if_neg bo%,if_pos (by simp;omega)]
 | k+1,out,ho=>by
  obtain ⟨t,ht⟩:=mark_go ((k+1) / 10) ((strOf ([(IntKind.u8.wrap (IntKind.i64.wrap ((48:Int)+(((k+1:Nat):Int).tmod (10:Int)))))]:List Int))++out) (by rw[List.length_append,str1];omega)
  refine ⟨t,fun n m hm=>?_⟩
  obtain ⟨m,rfl⟩:∃j,m=j+1:=⟨m-1,by cases m with | zero=>simp at hm | succ m=>rfl⟩
  have hp:(2:Nat) ^ (m+1)=2 ^ m*2:=Nat.pow_succ ..
  rw[hp] at hm
  show ml_markText.l0 n (loopR (ml_markText.l0 n) (m+1)) _=_
  have h:=ht n m bo%
  generalize loopR (ml_markText.l0 n) (m+1)=G at h
  unfold ml_markText.l0
  have hd:((k+1:Nat):Int).tdiv 10=(((k+1) / 10:Nat):Int):=by rw[Int.tdiv_eq_ediv_of_nonneg bo%];omega
  have hw:IntKind.i64.wrap ((((k+1) / 10:Nat):Int))=(((k+1) / 10:Nat):Int):=w64 bo% bo%
  simp only[bif_dec,grd_dec,grd_ndec]
  rw[if_pos bo%,if_neg bo%,if_pos (by rw[str1];omega),if_neg bo%,hd,hw]
  exact h
theorem markT (k:Nat):∃t:Bs,k≤80000000→∀n,4194304+1≤n→cl_markText n (k:Int)=some (t,()):=by
 by_cases hk:k≤80000000
 case neg=>exact ⟨[],fun h=>absurd h hk⟩
 cases k with
 | zero =>
  refine ⟨[109,48],fun _ n hn=>?_⟩
  obtain ⟨m,rfl⟩:=sn hn
  rw[el_markText];unfold ml_markText
  rw[bif_dec,if_pos bo%]
 | succ k =>
  obtain ⟨t,ht⟩:=mark_go (k+1) [] (by simp;omega)
  refine ⟨t,fun _ n hn=>?_⟩
  obtain ⟨m,rfl⟩:=sn hn
  rw[el_markText];unfold ml_markText
  rw[bif_dec,if_neg bo%]
  obtain ⟨j,rfl⟩:∃j,m=j+1:=⟨m-1,by omega⟩
  exact ht _ j (Nat.lt_of_lt_of_le (show k+1<2 ^ 27 by omega) (Nat.pow_le_pow_right bo% bo%))
noncomputable def mk (k:Nat):Bs:=(markT k).choose
theorem mk_ok {n:Nat} (hn:4194304+1≤n) {k:Nat} (hk:k≤80000000):cl_markText n (k:Int)=some (mk k,()):=(markT k).choose_spec hk n hn
noncomputable def marks:Nat→Nat→List Bs
 | _,0=>[]
 | k,m+1=>mk k :: marks (k+1) m
theorem marks_snoc:∀(m k:Nat),marks k (m+1)=marks k m++[mk (k+m)]
 | 0,k=>rfl
 | m+1,k=>by
  have:=marks_snoc m (k+1)
  show mk k :: marks (k+1) (m+1)=mk k :: marks (k+1) m++[mk (k+(m+1))]
  rw[this,show k+1+m=k+(m+1) by omega];rfl
theorem marks_len:∀(m k:Nat),(marks k m).length=m
 | 0,k=>rfl
 | m+1,k=>by rw[marks,List.length_cons,marks_len m]
theorem markS_ok {n:Nat} (hn:4194304+2≤n) {l:List Bs} (hl:l.length≤4000000) {k:Nat} (hk:k≤40000000):cl_markStringS n l (k:Int)=some (((k+l.length:Nat):Int),marks k l.length,()):=by
 obtain ⟨m,rfl⟩:=sn hn
 rw[el_markStringS];unfold ml_markStringS
 refine loopS l (fun r i st q=>st=(((k+i:Nat):Int),(i:Int),marks k i++r,())∧q=(((k+l.length:Nat):Int),marks k l.length,())) ?_ ?_ ⟨rfl,rfl⟩ bo%
 ·rintro st q self ⟨rfl,rfl⟩
  unfold ml_markStringS.l0
  simp only[bif_dec,List.append_nil,marks_len]
  rw[if_neg bo%]
 ·rintro x r i st q self hd hi hx ⟨rfl,rfl⟩ ih
  unfold ml_markStringS.l0
  have hlen:(marks k i++x :: r).length=l.length:=by
   have:=congrArg List.length hd
   rw[List.length_append,marks_len];simp at this ⊢;omega
  have hw:IntKind.i64.wrap (((k+i:Nat):Int)+1)=((k+(i+1):Nat):Int):=by rw[w64 bo% bo%];omega
  simp only[bif_dec,grd_dec,hlen,mk_ok (n:=m) bo% (show k+i≤80000000 by omega),Option.bind_some,Int.toNat_natCast,hw,w_i (show i≤4000000 by omega)]
  rw[if_pos bo%,if_pos bo%,if_pos bo%,if_pos hi]
  refine ih _ ⟨?_,rfl⟩
  rw[set_app _ _ _ _ i (marks_len _ _),marks_snoc];simp
theorem markUrl_ok {n:Nat} (hn:4194304+3≤n) {u:TUrl} (hl:u.2.2.2.2.2.1.length≤4000000) {k:Nat} (hk:k≤40000000):cl_markUrl n u (k:Int)=some (((k+u.2.2.2.2.2.1.length:Nat):Int),marks k u.2.2.2.2.2.1.length,()):=by
 obtain ⟨m,rfl⟩:=sn hn
 rw[el_markUrl];unfold ml_markUrl
 rw[markS_ok bo% hl hk];rfl
end Go.VM.T
namespace Go.VM.T
open Go Go.VM
structure WC (c:TCookie):Prop where
 name:c.1.length≤big64
 val:c.2.1.length≤big64
 dom:c.2.2.1.length≤big64
 path:c.2.2.2.2.1.length≤big64
structure WJ (l:List TCookie):Prop where
 len:l.length≤big64
 ck:∀c∈l,WC c
abbrev tCookie:Ty:=.pair .str (.pair .str (.pair .str (.pair .bool (.pair .str (.pair (.int .i64) (.pair .bool (.pair (.int .i64) (.pair (.int .i64) .unit))))))))
theorem WJ_of {l:List TCookie} (h:Wf (.lst tCookie) l):WJ l:=by
 obtain ⟨h0,h1⟩:=h
 refine ⟨h0,fun c hc=>?_⟩
 obtain ⟨g1,g2,g3,_,g5,_⟩:=h1 c hc
 exact ⟨g1,g2,g3,g5⟩
def szC (c:TCookie):Nat:=c.1.length+c.2.1.length+c.2.2.1.length+c.2.2.2.2.1.length
def sumC:List TCookie→Nat
 | []=>0
 | p :: l=>szC p+sumC l
theorem sumC_mem:∀ {l:List TCookie} {p:TCookie},p∈l→szC p≤sumC l
 | q :: l,p,h=>by
  unfold sumC
  rcases List.mem_cons.1 h with rfl | h
  ·omega
  ·have:=sumC_mem h;omega
theorem szCookie_ok {n:Nat} (hn:4194304+1≤n) {c:TCookie} (W:WC c) {left:Int} (h0:0≤left) (h1:left≤1048576):cl_szCookie n c left=some (leftM left (szC c),()):=by
 obtain ⟨m,rfl⟩:=sn hn
 obtain ⟨w1,w2,w3,w4⟩:=W
 have b:big64=9223372036854775807:=rfl
 rw[el_szCookie];unfold ml_szCookie szC
 have wr:∀(a:Int) (k:Nat),0≤a→a≤1048576→k≤big64→IntKind.i64.wrap (a-(k:Int))=a-k:=fun a k ha hb hk=>w64 bo% bo%
 rw[wr left _ h0 h1 w1,bif_dec]
 by_cases g1:left-(c.1.length:Int)<0
 ·rw[if_pos g1,leftM_neg bo%]
 rw[if_neg g1,wr _ _ bo% bo% w2,bif_dec]
 by_cases g2:left-(c.1.length:Int)-(c.2.1.length:Int)<0
 ·rw[if_pos g2,leftM_neg bo%]
 rw[if_neg g2,wr _ _ bo% bo% w3,bif_dec]
 by_cases g3:left-(c.1.length:Int)-(c.2.1.length:Int)-(c.2.2.1.length:Int)<0
 ·rw[if_pos g3,leftM_neg bo%]
 rw[if_neg g3,wr _ _ bo% bo% w4,bif_dec]
 by_cases g4:left-(c.1.length:Int)-(c.2.1.length:Int)-(c.2.2.1.length:Int)-(c.2.2.2.2.1.length:Int)<0
 ·rw[if_pos g4,leftM_neg bo%]
 rw[if_neg g4,leftM_pos bo%]
 congr 2;omega
theorem szCookieS_ok {n:Nat} (hn:4194304+4≤n) {l:List TCookie} (W:WJ l) {left:Int} (h0:0≤left) (h1:left≤1048576):cl_szCookieS n l left=some (leftM left (l.length+sumC l),()):=by
 obtain ⟨m,rfl⟩:=sn hn
 have hl:=W.len
 unfold big64 at hl
 rw[el_szCookieS];unfold ml_szCookieS
 rw[w64 bo% bo%,bif_dec]
 by_cases g:(l.length:Int)≤left
 ·rw[if_neg bo%]
  have e:leftM left (l.length+sumC l)=leftM (left-l.length) (sumC l):=by
   unfold leftM
   by_cases q:((l.length+sumC l:Nat):Int)≤left
   ·rw[if_pos q,if_pos bo%];omega
   ·rw[if_neg q,if_neg bo%]
  rw[e]
  refine loopS l (fun r i st q=>st.2.1=(i:Int)∧0≤st.1∧st.1≤1048576∧q=(leftM st.1 (sumC r),())) ?_ ?_ ⟨rfl,by dsimp only;omega,by dsimp only;omega,rfl⟩ bo%
  ·rintro ⟨v,i0,⟨⟩⟩ q self ⟨hi0,hv,hv2,rfl⟩
   dsimp only at hi0 hv hv2;subst hi0
   unfold ml_szCookieS.l0
   dsimp only
   rw[bif_dec,if_neg bo%]
   unfold leftM sumC
   rw[if_pos bo%];simp
  ·rintro x r i ⟨v,i0,⟨⟩⟩ q self hd hi hx ⟨hi0,hv,hv2,rfl⟩ ih
   dsimp only at hi0 hv hv2;subst hi0
   have hxl:=W.ck x (List.mem_of_getElem? hx)
   unfold ml_szCookieS.l0
   dsimp only
   rw[toNat_nat,getD_get _ hx,szCookie_ok bo% hxl hv hv2,bif_dec,if_pos bo%,grd_dec,if_pos bo%,grd_dec,if_pos bo%]
   simp only[Option.bind_some]
   rw[bif_dec]
   by_cases q:(szC x:Int)≤v
   ·rw[leftM_pos q,if_neg bo%]
    refine ih _ ⟨w_i bo%,by dsimp only;omega,by dsimp only;omega,?_⟩
    dsimp only
    unfold leftM
    rw[show sumC (x :: r)=szC x+sumC r from rfl]
    by_cases q2:((szC x+sumC r:Nat):Int)≤v
    ·rw[if_pos q2,if_pos bo%]
     congr 1;omega
    ·rw[if_neg q2,if_neg bo%]
   ·rw[leftM_neg q,if_pos bo%]
    unfold sumC
    rw[leftM_neg bo%]
 ·rw[if_pos bo%,leftM_neg bo%]
theorem toCookieS_ok {n:Nat} (hn:4194304+4≤n) {l:List TCookie} (hl:l.length≤4000000):cl_toCookieS n l=some (l,()):=by
 obtain ⟨m,rfl⟩:=sn hn
 have ht:∀c:TCookie,cl_toCookie m c=some (c,()):=fun c=>by
  obtain ⟨j,rfl⟩:∃j,m=j+1:=⟨m-1,by omega⟩
  rw[el_toCookie];rfl
 rw[el_toCookieS];unfold ml_toCookieS
 rw[grd_dec,if_pos bo%,grd_dec,if_pos bo%,grd_dec,if_pos bo%,toNat_nat]
 refine loopS l (fun r i st q=>st.1=(i:Int)∧st.2.1=l.take i++List.replicate r.length dCookie∧q=(l,())) ?_ ?_ ⟨rfl,by simp,rfl⟩ bo%
 ·rintro ⟨i0,row,⟨⟩⟩ q self ⟨hi0,hr,rfl⟩
  dsimp only at hi0 hr;subst hi0;subst hr
  unfold ml_toCookieS.l0
  dsimp only
  rw[bif_dec,if_neg bo%];simp
 ·rintro x r i ⟨i0,row,⟨⟩⟩ q self hd hi hx ⟨hi0,hr,rfl⟩ ih
  dsimp only at hi0 hr;subst hi0
  have hlen:row.length=l.length:=by rw[hr];have:=congrArg List.length hd;simp at this ⊢;omega
  unfold ml_toCookieS.l0
  dsimp only
  rw[toNat_nat,getD_get _ hx,ht,bif_dec,if_pos bo%,grd_dec,if_pos bo%,grd_dec,if_pos bo%]
  simp only[Option.bind_some]
  rw[grd_dec,if_pos bo%,grd_dec,if_pos bo%,grd_dec,if_pos bo%]
  refine ih _ ⟨w_i bo%,?_,rfl⟩
  dsimp only
  rw[hr,take_succ' hx,List.length_cons,List.replicate_succ,set_app _ _ _ _ i (by simp;omega)]
  simp
theorem eqCookie_refl {n:Nat} (hn:4194304+1≤n) (c:TCookie):cl_eqCookie n c c=some (true,()):=by
 obtain ⟨m,rfl⟩:=sn hn
 rw[el_eqCookie];unfold ml_eqCookie
 simp
theorem eqCookieS_refl {n:Nat} (hn:4194304+4≤n) {l:List TCookie} (hl:l.length≤4000000):cl_eqCookieS n l l=some (true,()):=by
 obtain ⟨m,rfl⟩:=sn hn
 rw[el_eqCookieS];unfold ml_eqCookieS
 rw[bif_ndec,if_pos rfl]
 refine loopS l (fun _ i st q=>q=(true,())∧st=((i:Int),())) ?_ ?_ ⟨rfl,rfl⟩ bo%
 ·rintro st q self ⟨rfl,rfl⟩
  unfold ml_eqCookieS.l0
  simp only[bif_dec]
  rw[if_neg bo%]
 ·rintro x r i st q self hd hi hx ⟨rfl,rfl⟩ ih
  unfold ml_eqCookieS.l0
  have k1:(0:Int)≤(i:Int):=by omega
  have k2:(i:Int)<(l.length:Int):=by omega
  simp only[bif_dec,grd_dec,toNat_nat,getD_get dCookie hx,k1,k2,if_true,eqCookie_refl (n:=m) bo%,Option.bind_some,Bool.not_true,cond_false,w_i (show i≤4000000 by omega)]
  exact ih _ ⟨rfl,rfl⟩
noncomputable def mkC (k:Nat):TCookie:=(mk k,mk (k+1),mk (k+2),decide (((k+3:Nat):Int).tmod 3=0),mk (k+4),((k+5:Nat):Int),decide (((k+6:Nat):Int).tmod 3=0),((k+7:Nat):Int),((k+8:Nat):Int),())
noncomputable def marksC:Nat→Nat→List TCookie
 | _,0=>[]
 | k,m+1=>mkC k :: marksC (k+9) m
theorem marksC_snoc:∀(m k:Nat),marksC k (m+1)=marksC k m++[mkC (k+9*m)]
 | 0,k=>rfl
 | m+1,k=>by
  have:=marksC_snoc m (k+9)
  show mkC k :: marksC (k+9) (m+1)=mkC k :: marksC (k+9) m++[mkC (k+9*(m+1))]
  rw[this,show k+9+9*m=k+9*(m+1) by omega];rfl
theorem marksC_len:∀(m k:Nat),(marksC k m).length=m
 | 0,k=>rfl
 | m+1,k=>by rw[marksC,List.length_cons,marksC_len m]
theorem marksC_get:∀(m k i:Nat),i<m→(marksC k m)[i]? = some (mkC (k+9*i))
 | m+1,k,0,_=>rfl
 | m+1,k,i+1,h=>by
  rw[marksC,List.getElem?_cons_succ,marksC_get m (k+9) i bo%,show k+9+9*i=k+9*(i+1) by omega]
theorem setE_len {α:Type} (l:List α) (i:Nat) (d:α) (f:α→α):(setE l i d f).length=l.length:=by unfold setE;simp
theorem setE_mid {α:Type} {A B:List α} {y d:α} {f:α→α} {i:Nat} (h:A.length=i):setE (A++y :: B) i d f=A++f y :: B:=by
 unfold setE
 rw[set_app _ _ _ _ i h,List.getD_eq_getElem?_getD,List.getElem?_append_right bo%,h,Nat.sub_self];rfl
theorem w_k {z:Nat} (h:z≤80000000):IntKind.i64.wrap ((z:Int)+1)=((z+1:Nat):Int):=by rw[w64 bo% bo%];omega
theorem markCS_ok {n:Nat} (hn:4194304+2≤n) {l:List TCookie} (hl:l.length≤4000000):cl_markCookieS n l (1:Int)=some (((1+9*l.length:Nat):Int),marksC 1 l.length,()):=by
 obtain ⟨m,rfl⟩:=sn hn
 rw[el_markCookieS];unfold ml_markCookieS
 refine loopS l (fun r i st q=>st=(((1+9*i:Nat):Int),(i:Int),marksC 1 i++r,())∧q=(((1+9*l.length:Nat):Int),marksC 1 l.length,())) ?_ ?_ ⟨rfl,rfl⟩ bo%
 ·rintro st q self ⟨rfl,rfl⟩
  unfold ml_markCookieS.l0
  simp only[bif_dec,List.append_nil,marksC_len]
  rw[if_neg bo%]
 ·rintro x r i st q self hd hi hx ⟨rfl,rfl⟩ ih
  have hA:=marksC_len i 1
  have hlen:∀y:TCookie,(marksC 1 i++y :: r).length=l.length:=fun y=>by
   have:=congrArg List.length hd
   rw[List.length_append,hA];simp at this ⊢;omega
  have hih:=ih (((1+9*(i+1):Nat):Int),((i+1:Nat):Int),marksC 1 (i+1)++r,()) ⟨rfl,rfl⟩
  rw[marksC_snoc,List.append_assoc,show 1+9*(i+1)=1+9*i+8+1 by omega] at hih
  have hK:1+9*i≤40000000:=by omega
  generalize 1+9*i=K at *
  unfold ml_markCookieS.l0
  have k1:(0:Int)≤(i:Int):=by omega
  have k2:(i:Int)<(l.length:Int):=by omega
  have h3:((3:Int)=0)=False:=by simp
  simp only[bif_dec,grd_dec,grd_ndec,setE_len,hlen,Int.toNat_natCast,w_k (show K≤80000000 by omega),w_k (show K+1≤80000000 by omega),w_k (show K+1+1≤80000000 by omega),w_k (show K+1+1+1≤80000000 by omega),w_k (show K+1+1+1+1≤80000000 by omega),w_k (show K+1+1+1+1+1≤80000000 by omega),w_k (show K+1+1+1+1+1+1≤80000000 by omega),w_k (show K+1+1+1+1+1+1+1≤80000000 by omega),w_k (show K+1+1+1+1+1+1+1+1≤80000000 by omega),
   mk_ok (n:=m) bo% (show K≤80000000 by omega),mk_ok (n:=m) bo% (show K+1≤80000000 by omega),mk_ok (n:=m) bo% (show K+1+1≤80000000 by omega),mk_ok (n:=m) bo% (show K+1+1+1+1≤80000000 by omega),Option.bind_some,k1,k2,hi,h3,if_true,if_false,setE_mid hA,w_i (show i≤4000000 by omega)]
  exact hih
theorem heldCS_ok {n:Nat} (hn:4194304+2≤n) {z:Nat} (hl:z≤4000000):cl_heldCookieS n (marksC 1 z) (1:Int)=some (((1+9*z:Nat):Int),()):=by
 obtain ⟨m,rfl⟩:=sn hn
 rw[el_heldCookieS];unfold ml_heldCookieS
 have hz:=marksC_len z 1
 refine loopS (marksC 1 z) (fun r i st q=>st=(((1+9*i:Nat):Int),(i:Int),())∧q=(((1+9*z:Nat):Int),())) ?_ ?_ ⟨rfl,rfl⟩ bo%
 ·rintro st q self ⟨rfl,rfl⟩
  unfold ml_heldCookieS.l0
  simp only[bif_dec]
  rw[if_neg bo%,hz]
 ·rintro x r i st q self hd hi hx ⟨rfl,rfl⟩ ih
  have hx2:=marksC_get z 1 i bo%
  have hih:=ih (((1+9*(i+1):Nat):Int),((i+1:Nat):Int),()) ⟨rfl,rfl⟩
  rw[show 1+9*(i+1)=1+9*i+8+1 by omega] at hih
  have hK:1+9*i≤40000000:=by omega
  generalize 1+9*i=K at *
  generalize marksC 1 z=M at *
  unfold ml_heldCookieS.l0
  have k1:(0:Int)≤(i:Int):=by omega
  have k2:(i:Int)<(M.length:Int):=by omega
  have h3:((3:Int)=0)=False:=by simp
  simp only[bif_dec,bif_ndec,grd_dec,grd_ndec,Int.toNat_natCast,getD_get dCookie hx2,w_k (show K≤80000000 by omega),w_k (show K+1≤80000000 by omega),w_k (show K+1+1≤80000000 by omega),w_k (show K+1+1+1≤80000000 by omega),w_k (show K+1+1+1+1≤80000000 by omega),w_k (show K+1+1+1+1+1≤80000000 by omega),w_k (show K+1+1+1+1+1+1≤80000000 by omega),w_k (show K+1+1+1+1+1+1+1≤80000000 by omega),w_k (show K+1+1+1+1+1+1+1+1≤80000000 by omega),
   mk_ok (n:=m) bo% (show K≤80000000 by omega),mk_ok (n:=m) bo% (show K+1≤80000000 by omega),mk_ok (n:=m) bo% (show K+1+1≤80000000 by omega),mk_ok (n:=m) bo% (show K+1+1+1+1≤80000000 by omega),Option.bind_some,k1,k2,h3,if_true,if_false,w_i (show i≤4000000 by omega),mkC,beq_self_eq_true,Bool.not_true,cond_false]
  exact hih
theorem law_JarSet {n:Nat} (hn:4194304+60≤n) {l:List TCookie} {u:TUrl} (W:WJ l) (U:WU u) (t:Bs) (now:Int):cl_FnExactJarSet n l u t now=some (true,()):=by
 obtain ⟨m,rfl⟩:=sn hn
 rw[el_FnExactJarSet];unfold ml_FnExactJarSet
 rw[bif_dec]
 split
 ·rfl
 rw[szCookieS_ok bo% W bo% bo%]
 simp only[Option.bind_some]
 rw[bif_dec]
 by_cases g1:leftM 1048576 (l.length+sumC l)<0
 ·rw[if_pos g1]
 rw[if_neg g1]
 have hk:leftM 1048576 (l.length+sumC l)=1048576-((l.length+sumC l:Nat):Int)∧((l.length+sumC l:Nat):Int)≤1048576:=by
  unfold leftM at g1 ⊢
  split at g1
  ·rename_i h;rw[if_pos h];exact ⟨rfl,h⟩
  ·exact absurd bo% g1
 obtain ⟨hk1,hk2⟩:=hk
 rw[hk1,szUrl_ok bo% U bo% bo%]
 simp only[Option.bind_some]
 rw[bif_dec]
 generalize hK:(1048576-((l.length+sumC l:Nat):Int))=K at *
 by_cases g2:leftM K (szU u)<0
 ·rw[if_pos g2]
 rw[if_neg g2]
 have hKl:K≤1048576:=by omega
 obtain ⟨bu,k0,k1,pu⟩:=WU_BU U hKl g2
 have hl4:l.length≤4000000:=by omega
 have B:BJ l:=⟨by omega,fun c hc=>by
  have h:=sumC_mem hc
  unfold szC at h
  exact ⟨by omega,by omega,by omega⟩⟩
 have hS:BJ (setJ l u t now).1:=by
  unfold setJ
  split
  ·split
   ·exact putJ_bj B (bkc (getU_bk t now)) now
   ·exact B
  ·exact BJ.nil
 have hS4:(setJ l u t now).1.length≤4000000:=by have:=hS.len;omega
 have e2:cl_markUrl m u (((1+9*l.length:Nat):Int))=_:=markUrl_ok (n:=m) (k:=1+9*l.length) bo% pu bo%
 have n1:∀z:Nat,¬((z:Nat):Int)<0:=fun z=>by omega
 simp only[toCookieS_ok (n:=m) bo% hl4,toUrl_ok (n:=m) bo% pu,spec_JarSet_ok (n:=m) bo% B bu,impl_JarSet_ok (n:=m) bo% B bu,eqUrl_refl (n:=m) bo% pu,eqCookieS_refl (n:=m) bo% hl4,eqCookieS_refl (n:=m) bo% hS4,markCS_ok (n:=m) bo% hl4,markCS_ok (n:=m) bo% hS4,heldCS_ok (n:=m) bo% hS4,e2,Option.bind_some,Bool.not_true,cond_false,bif_dec,n1,if_false,decide_true]
end Go.VM.T
