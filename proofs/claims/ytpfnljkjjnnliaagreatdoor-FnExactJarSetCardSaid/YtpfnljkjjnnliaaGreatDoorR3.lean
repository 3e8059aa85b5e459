/- Plain words, models of plain functions, what the library's functions are asked for. -/
import Derived.Test.YtpfnljkjjnnliaaGreatDoorR2
local macro "bo%" : term => `(by omega)
set_option linter.unusedVariables false
set_option linter.unusedSimpArgs false
namespace Go.VM
open Go.RowKit
variable {P:Program} {Γ:Ctx} {θ:Nat→Value} {N:Nat} {w0:World} {M0 S0:Nat→Prop} {ι0:Nat→Value} {r r2 b:Env} {ι:Nat→Value} {S:Nat→Prop} {a:Act} {w:World} {R:Type} {cal:Cal Γ} {k:Env→Option R} {q:R} {o:Oper} {ds:List Nat}
 {Q:Exit→Act→World→Prop} {K':Act→World→Prop}
theorem dropE_obj (n m:Nat) (r:Env):(dropE n r).obj m=if n=m then none else r.obj m:=look_del _ _ _
theorem dropE_mono {n:Nat} (h:Le r r2):Le (dropE n r) (dropE n r2) :=
 ⟨h.tm,fun m x e=>by
  rw[dropE_obj] at e ⊢
  split at e
  ·cases e
  ·rename_i hn;rw[if_neg hn];exact h.ob m x e,h.rt,h.rn⟩
theorem freshO_del {n m:Nat}:∀ {l:List (Nat×Ob)},freshO n l=true→freshO n (del m l)=true
 | [],_=>rfl
 | (j,x) :: l,h=>by
  simp only[freshO,Bool.and_eq_true] at h
  simp only[del]
  cases Nat.beq j m with
  | true=>exact freshO_del h.2
  | false=>simp only[cond_false,freshO,Bool.and_eq_true];exact ⟨h.1,freshO_del h.2⟩
theorem Fr.drop {n m:Nat} (h:Fr r n):Fr (dropE m r) n:=⟨h.1,freshO_del h.2⟩
def ApD (Γ:Ctx) (N:Nat) (cal:Cal Γ) (r:Env) (o:Oper) (n:Nat) (δ:Dl):Prop :=
 ∀(R2:Type) (r2:Env) (k2:Env→Option R2),Le r r2→(∀m,m∈keys δ.ob→Fr (dropE n r2) m)→step Γ N cal r2 o k2=k2 (addD δ (dropE n r2))
theorem srcOf_le (hl:Le r r2) {e:Ty} {t:Option Ty} {c:CV} {ys:List e.den} (h:srcOf r e t c=some ys):srcOf r2 e t c=some ys:=by
 unfold srcOf at h ⊢
 split at h
 ·exact h
 ·exact listOf_le hl.ob h
 ·cases h
theorem append_res {d:Option Nat} {ts us:Option Nat} {x y:Operand} {n:Nat} (hx:r.evc Γ x=some (.sl n)) (h:stepAppend Γ N r d ts us x y k=some q) :
  ∃v obs,k (addD ⟨d,v,obs⟩ (dropE n r))=some q∧∀(R2:Type) (r2:Env) (k2:Env→Option R2),Le r r2→(∀m,m∈keys obs→Fr (dropE n r2) m)→stepAppend Γ N r2 d ts us x y k2=k2 (addD ⟨d,v,obs⟩ (dropE n r2)):=by
 unfold stepAppend at h
 split at h
 ·rename_i e a c he ha hc
  rw[hx] at ha;cases ha
  obtain ⟨h0,h⟩:(!(srcTy (us.bind Γ.ty) e&&Nat.beq (zeroCells e).length e.size))=false∧_:=by
   rcases wrap_not h with ⟨_,h⟩ | h
   ·cases h
   ·exact h
  split at h
  ·cases h
  ·rename_i ys hys
   simp only at h
   obtain ⟨h1,h⟩:mem n c.names=false∧_:=by
    rcases wrap_not h with ⟨_,h⟩ | h
    ·cases h
    ·exact h
   split at h
   ·rename_i e' xs hob
    split at h
    ·rename_i he'
     obtain ⟨h2,h⟩:=grd_some h
     obtain ⟨h3,h⟩:=bif_some h
     obtain ⟨g1,g2⟩:=new_res h
     refine ⟨_,_,g1,fun R2 r2 k2 hl hf=>?_⟩
     unfold stepAppend
     rw[he,hl.evc hx,hl.evc hc]
     simp only[h0,cond_false,srcOf_le hl hys,h1,hl.ob _ _ hob,he',dif_pos]
     unfold grd Env.drop
     have e3:(!mem n r2.rn)=true:=by rw[hl.rn];exact h3
     rw[h2,e3]
     exact g2 R2 (dropE n r2) k2 (dropE_mono hl) (hf _ (by simp[keys]))
    ·cases h
   ·cases h
 ·cases h
theorem ap_dl {kd:Dl→Option R} {n:Nat} (hm:isAp o=true) (hn:apN Γ r o=some n) (h:(step Γ N cal r o fun r'=>kd (dlOf (dropE n r) o r'))=some q):∃δ,kd δ=some q∧δ.d=o.dst∧ApD Γ N cal r o n δ:=by
 have key:∃v obs,kd (dlOf (dropE n r) o (addD ⟨o.dst,v,obs⟩ (dropE n r)))=some q∧∀(R2:Type) (r2:Env) (k2:Env→Option R2),Le r r2→(∀m,m∈keys obs→Fr (dropE n r2) m)→step Γ N cal r2 o k2=k2 (addD ⟨o.dst,v,obs⟩ (dropE n r2)):=by
  unfold isAp at hm
  split at hm
  ·cases hm
  split at hm
  ·rename_i c ho
   split at hm
   ·rename_i hcal
    unfold apN at hn
    rw[ho] at hn
    simp only at hn
    split at hn
    ·rename_i x l hargs
     split at hn
     ·rename_i n' hx
      cases hn
      unfold step at h
      rw[ho] at h
      simp only[stepCall,hcal,hargs] at h
      split at h
      ·rename_i x' y ts us e1 e2
       cases e1
       obtain ⟨v,obs,g1,g2⟩:=append_res hx h
       refine ⟨v,obs,g1,fun R2 r2 k2 hl hf=>?_⟩
       unfold step
       rw[ho]
       simp only[stepCall,hcal,hargs,e2]
       exact g2 R2 r2 k2 hl hf
      ·cases h
     ·cases hn
    ·cases hn
   ·cases hm
  ·cases hm
 obtain ⟨v,obs,h1,h2⟩:=key
 generalize hr:dropE n r=rd at h1
 have e1:(dlOf rd o (addD ⟨o.dst,v,obs⟩ rd)).ob=obs:=by
  show (obs++rd.ob).take ((obs++rd.ob).length-rd.ob.length)=obs
  rw[List.length_append,Nat.add_sub_cancel,List.take_left']
  rfl
 have e2:∀x:Env,addD (dlOf rd o (addD ⟨o.dst,v,obs⟩ rd)) x=addD ⟨o.dst,v,obs⟩ x:=fun x=>by
  cases hd:o.dst with
  | none=>rw[hd] at e1;simp only[addD,e1,dlOf,hd] at e1 ⊢;simp[e1]
  | some t =>
   have:(dlOf rd o (addD ⟨some t,v,obs⟩ rd))=⟨some t,v,obs⟩:=by
    rw[hd] at e1
    have hv:(dlOf rd o (addD ⟨some t,v,obs⟩ rd)).v=v:=by
     simp only[dlOf,hd,addD_get,if_pos]
     rfl
    have hdd:(dlOf rd o (addD ⟨some t,v,obs⟩ rd)).d=some t:=hd
    generalize dlOf rd o (addD ⟨some t,v,obs⟩ rd)=D at e1 hv hdd
    obtain ⟨d',v',ob'⟩:=D
    cases e1;cases hv;cases hdd
    rfl
   rw[this]
 exact ⟨_,h1,rfl,fun R2 r2 k2 hl hf=>by rw[e2];exact h2 R2 r2 k2 hl (fun m hm=>hf m (by rw[e1];exact hm))⟩
theorem ap_ok (B:Base P Γ θ w0 M0 S0) (hC:∀g,FnOk P Γ g (Γ.ent g).sg (cal g)) (ops:Array Oper) {δ:Dl} {n:Nat} (hs:ApD Γ N cal r o n δ) (hg:o.guard=none) (hl:Le r r2) (hf:∀m,m∈keys δ.ob→Fr r2 m) (W:RepW θ N w0 M0 S0 ι0 r2 ι S a w)
  (hK:∀ι' S' a' w',RepW θ N w0 M0 S0 ι0 (addD δ (dropE n r2)) ι' S' a' w'→K' a' w'):if Region.wanted o (yielded ops a.tmps) then o.wp P a w K' Q∨(o.asks P a w∧LetsOut Q) else K' (a.put o.dst undef) w:=by
 rw[if_pos (by simp[Region.wanted,hg])]
 exact .inl (step_ok (k:=fun r=>some r) (q:=addD δ (dropE n r2)) B hC W (hs Env r2 _ hl fun m hm=>(hf m hm).drop) fun r' ι' S' a' w' h' W' _=>by
  cases h'
  exact hK ι' S' a' w' W')
theorem slotIx_ok {t:Nat}:∀ {l:List Dl} {i p:Nat},slotIx l t i=some p→∃j δ,p=i+j∧l[j]? = some δ∧δ.d=some t
 | [],i,p,h=>by cases h
 | δ :: l,i,p,h=>by
  unfold slotIx at h
  split at h
  ·rename_i u hu
   cases hb:Nat.beq u t with
   | true =>
    rw[hb] at h
    cases h
    exact ⟨0,δ,rfl,rfl,by rw[hu,Nat.eq_of_beq_eq_true hb]⟩
   | false =>
    rw[hb] at h
    obtain ⟨j,ε,e1,e2,e3⟩:=slotIx_ok h
    exact ⟨j+1,ε,by omega,by simpa using e2,e3⟩
  ·obtain ⟨j,ε,e1,e2,e3⟩:=slotIx_ok h
   exact ⟨j+1,ε,by omega,by simpa using e2,e3⟩
def FreeOr (Γ:Ctx) (N:Nat) (cal:Cal Γ) (ops:List Oper) (ds:List Nat) (b:Env) (δs:List Dl) (pr:List (Option Nat)) (i:Nat) (o:Oper) (δ:Dl):Prop :=
 (pr[i]? = some none∧FreeOp Γ N cal ops ds b δs i o δ)∨∃n p,pr[i]? = some (some p)∧δ.d=o.dst∧DlOk ds δ∧bigDep o i=true∧o.guard=none∧ApD Γ N cal (envOf b δs (maskOf o 0 i)) o n δ∧∃ε,δs[p]? = some ε∧ε.d=some (n / 64)
theorem isAp_guard (h:isAp o=true):o.guard=none:=by
 unfold isAp at h
 split at h
 ·cases h
 ·assumption
theorem drawGo4_spec {ops:List Oper}:∀ {os:List Oper} {acc:List Dl} {pr:List (Option Nat)} {k:List Dl→List (Option Nat)→Option R},acc.length=pr.length→drawGo4 Γ N cal ops ds b os acc pr k=some q →
  ∃δs ps,k (acc++δs) (pr++ps)=some q∧δs.length=os.length∧ps.length=os.length∧∀(i:Nat) (o:Oper),os[i]? = some o→∃δ,δs[i]? = some δ∧δ.d=o.dst∧DlOk ds δ∧FreeOr Γ N cal ops ds b (acc++δs) (pr++ps) (acc.length+i) o δ
 | [],acc,pr,k,_,h=>⟨[],[],by simpa [drawGo4] using h,rfl,rfl,fun i o h=>by simp at h⟩
 | o :: os,acc,pr,k,hlen,h=>by
  simp only[drawGo4] at h
  rcases wrap_not h with ⟨hap,h⟩ | ⟨_,h⟩
  ·split at h
   ·rename_i n hn
    split at h
    ·rename_i p hp
     obtain ⟨hbig,h⟩:=bif_some h
     obtain ⟨δ,h,hd,hs⟩:=ap_dl (kd:=fun δ=>bif okDl ds δ then drawGo4 Γ N cal ops ds b os (acc++[δ]) (pr++[some p]) k else none) hap hn h
     obtain ⟨hok,h⟩:=bif_some h
     obtain ⟨δs,ps,g1,g2,g2',g3⟩:=drawGo4_spec (by simp[hlen]) h
     have ea:acc++[δ]++δs=acc++δ :: δs:=by simp
     have ep:pr++[some p]++ps=pr++some p :: ps:=by simp
     rw[ea,ep] at g1
     refine ⟨δ :: δs,some p :: ps,g1,by simp[g2],by simp[g2'],fun i o' ho'=>?_⟩
     cases i with
     | zero =>
      cases ho'
      refine ⟨δ,rfl,hd,okDl_ok hok,.inr ⟨n,p,by rw[hlen];simp,hd,okDl_ok hok,hbig,isAp_guard hap,?_,?_⟩⟩
      ·rw[Nat.add_zero,envOf_prefix (by rw[maskOf_len];exact Nat.le_refl _)]
       exact hs
      ·obtain ⟨j,ε,e1,e2,e3⟩:=slotIx_ok hp
       rw[Nat.zero_add] at e1
       subst e1
       exact ⟨ε,by rw[List.getElem?_append_left (List.getElem?_eq_some_iff.1 e2).1];exact e2,e3⟩
     | succ i =>
      obtain ⟨ε,e1,e3,e4,e2⟩:=g3 i o' (by simpa using ho')
      refine ⟨ε,by simpa using e1,e3,e4,?_⟩
      rw[ea,ep,List.length_append,Nat.add_assoc,Nat.add_comm [δ].length] at e2
      exact e2
    ·cases h
   ·cases h
  ·rw[litG_eq] at h
   obtain ⟨hc,h⟩:=bif_some h
   simp only[Bool.and_eq_true] at hc
   obtain ⟨⟨hm,hbig⟩,ha⟩:=hc
   obtain ⟨δ,h,hd,hs⟩:=gstep_spec (k:=fun δ=>bif okDl ds δ then drawGo4 Γ N cal ops ds b os (acc++[δ]) (pr++[none]) k else none) hm ha h
   obtain ⟨hok,h⟩:=bif_some h
   obtain ⟨δs,ps,g1,g2,g2',g3⟩:=drawGo4_spec (by simp[hlen]) h
   have ea:acc++[δ]++δs=acc++δ :: δs:=by simp
   have ep:pr++[none]++ps=pr++none :: ps:=by simp
   rw[ea,ep] at g1
   refine ⟨δ :: δs,none :: ps,g1,by simp[g2],by simp[g2'],fun i o' ho'=>?_⟩
   cases i with
   | zero =>
    cases ho'
    refine ⟨δ,rfl,hd,okDl_ok hok,.inl ⟨by rw[hlen];simp,hd,okDl_ok hok,hbig,?_⟩⟩
    rw[Nat.add_zero,envOf_prefix (by rw[maskOf_len];exact Nat.le_refl _)]
    exact .go hs
   | succ i =>
    obtain ⟨ε,e1,e3,e4,e2⟩:=g3 i o' (by simpa using ho')
    refine ⟨ε,by simpa using e1,e3,e4,?_⟩
    rw[ea,ep,List.length_append,Nat.add_assoc,Nat.add_comm [δ].length] at e2
    exact e2
theorem soleGo_ok {p k:Nat}:∀ {l:List Oper} {i:Nat},soleGo p k i l=true→∀(j:Nat) (o:Oper),l[j]? = some o→depOn o p=true→i+j=k
 | [],_,_,j,o,h,_=>by simp at h
 | o' :: l,i,h,j,o,hj,hd=>by
  simp only[soleGo,Bool.and_eq_true,Bool.or_eq_true,Bool.not_eq_true'] at h
  cases j with
  | zero =>
   cases hj
   rcases h.1 with e | e
   ·exact Nat.eq_of_beq_eq_true e
   ·rw[hd] at e;cases e
  | succ j =>
   have:=soleGo_ok h.2 j o (by simpa using hj) hd
   omega
theorem soles_ok {os:List Oper}:∀ {pr:List (Option Nat)} {i:Nat},soles os i pr=true→∀(j p:Nat),pr[j]? = some (some p)→∀(s:Nat) (o:Oper),os[s]? = some o→depOn o p=true→s=i+j
 | [],_,_,j,p,h,_,_,_,_=>by simp at h
 | none :: l,i,h,j,p,hj,s,o,hs,hd=>by
  simp only[soles] at h
  cases j with
  | zero=>simp at hj
  | succ j =>
   have:=soles_ok h j p (by simpa using hj) s o hs hd
   omega
 | some p' :: l,i,h,j,p,hj,s,o,hs,hd=>by
  simp only[soles,Bool.and_eq_true] at h
  cases j with
  | zero =>
   simp only[List.getElem?_cons_zero,Option.some.injEq] at hj
   subst hj
   have:=soleGo_ok h.1 s o hs hd
   omega
  | succ j =>
   have:=soles_ok h.2 j p (by simpa using hj) s o hs hd
   omega
theorem usedIn_ok {j:Nat}:∀ {pr:List (Option Nat)},usedIn j pr=false→∀i:Nat,pr[i]?≠some (some j)
 | [],_,i,h=>by simp at h
 | none :: l,hu,i,h=>by
  cases i with
  | zero=>simp at h
  | succ i=>exact usedIn_ok (pr:=l) hu i (by simpa using h)
 | some p :: l,hu,i,h=>by
  simp only[usedIn,Bool.or_eq_false_iff] at hu
  cases i with
  | zero =>
   simp only[List.getElem?_cons_zero,Option.some.injEq] at h
   subst h
   have:=hu.1
   rw[Nat.beq_refl] at this
   cases this
  | succ i=>exact usedIn_ok (pr:=l) hu.2 i (by simpa using h)
theorem finM_ok {pr:List (Option Nat)}:∀ {n j i:Nat},(finM pr j n)[i]? = some true→i<n∧∀s:Nat,pr[s]?≠some (some (j+i))
 | 0,j,i,h=>by simp[finM] at h
 | n+1,j,i,h=>by
  cases i with
  | zero =>
   simp only[finM,List.getElem?_cons_zero,Option.some.injEq,Bool.not_eq_true'] at h
   exact ⟨by omega,usedIn_ok h⟩
  | succ i =>
   have:=finM_ok (n:=n) (j:=j+1) (i:=i) (by simpa [finM] using h)
   exact ⟨by omega,by rw[show j+(i+1)=j+1+i by omega];exact this.2⟩
structure LOk (pr:List (Option Nat)) (X L:List Bool):Prop where
 len:L.length=X.length
 sub:∀j:Nat,L[j]? = some true→X[j]? = some true
 cov:∀j:Nat,X[j]? = some true→(∀i:Nat,pr[i]? = some (some j)→X[i]?≠some true)→L[j]? = some true
theorem get_false {L:List Bool} {i:Nat} (h:L[i]?≠some true) (hl:i<L.length):L[i]? = some false:=by
 rw[List.getElem?_eq_getElem hl] at h ⊢
 cases hq:L[i] with
 | true=>rw[hq] at h;exact absurd rfl h
 | false=>rfl
theorem LOk.set {pr:List (Option Nat)} {X L:List Bool} {i:Nat} (h:LOk pr X L) (hi:i<X.length):LOk pr (X.set i true) (L.set i true) where
 len:=by simp[h.len]
 sub:=fun j hj=>by
  rcases of_set hj with rfl | hj
  ·rw[List.getElem?_set,if_pos rfl,if_pos hi]
  ·exact set_true (h.sub j hj)
 cov:=fun j hj hc=>by
  rcases of_set hj with rfl | hj
  ·rw[List.getElem?_set,if_pos rfl,if_pos (by rw[h.len];exact hi)]
  ·exact set_true (h.cov j hj fun s hs hx=>hc s hs (set_true hx))
theorem LOk.take {pr:List (Option Nat)} {X L:List Bool} {i p:Nat} (h:LOk pr X L) (hi:i<X.length) (hp:pr[i]? = some (some p)):LOk pr (X.set i true) ((L.set p false).set i true) where
 len:=by simp[h.len]
 sub:=fun j hj=>by
  rcases of_set hj with rfl | hj
  ·rw[List.getElem?_set,if_pos rfl,if_pos hi]
  ·rw[List.getElem?_set] at hj
   split at hj
   ·split at hj <;> cases hj
   ·exact set_true (h.sub j hj)
 cov:=fun j hj hc=>by
  rcases of_set hj with rfl | hj
  ·rw[List.getElem?_set,if_pos rfl,if_pos (by simp only[List.length_set];rw[h.len];exact hi)]
  ·have hpj:p≠j:=fun e=>by
    subst e
    exact hc i hp (by rw[List.getElem?_set,if_pos rfl,if_pos hi])
   refine set_true ?_
   rw[List.getElem?_set,if_neg hpj]
   exact h.cov j hj fun s hs hx=>hc s hs (set_true hx)
theorem phase1c (B:Base P Γ θ w0 M0 S0) (hC:∀g,FnOk P Γ g (Γ.ent g).sg (cal g)) (ops:Array Oper) {m:Nat} (hm:m≤ops.size) {δs:List Dl} {pr:List (Option Nat)} (hlen:δs.length=m) (hg:Good ds δs) (hb:EFar ds (fun _=>False) b)
  (hfree:∀(i:Nat) (o:Oper),(ops.toList.take m)[i]? = some o→∃δ,δs[i]? = some δ∧δ.d=o.dst∧DlOk ds δ∧FreeOr Γ N cal ops.toList ds b δs pr i o δ) (hsole:soles (ops.toList.take m) 0 pr=true) (hw:waits (closN ops.toList []) ops.size m (ops.toList.drop m)=true)
  (hk:execOps Γ N cal ops.toList (ops.toList.drop m) (envOf b δs (finM pr 0 m)) k=some q) (hQ:ExO k q θ N w0 M0 S0 ι0 (envOf b δs (finM pr 0 m)) Q):∀(fuel:Nat) {X L:List Bool} {ι:Nat→Value} {S:Nat→Prop} {a:Act} {w:World},
  cntF X=fuel→X.length=ops.size→Closed ops.toList X→(∀j,m≤j→X[j]?≠some true)→LOk pr X L→RepW θ N w0 M0 S0 ι0 (envOf b δs L) ι S a w→wpAny P .any ops Q fuel ⟨X⟩ a w:=by
 have fin:∀ {X L:List Bool},LOk pr X L→(∀i,i<m→X[i]? = some true)→Le (envOf b δs (finM pr 0 m)) (envOf b δs L):=fun hL h1=>envOf_le hg hb fun i hi=>by
  obtain ⟨g1,g2⟩:=finM_ok hi
  rw[Nat.zero_add] at g2
  exact hL.cov i (h1 i g1) fun s hs=>absurd hs (g2 s)
 intro fuel
 induction fuel with
 | zero =>
  intro X L ι S a w hcnt hX hc h2 hL W
  have hall:=cntF_zero hcnt
  have h1:∀i,i<m→X[i]? = some true:=fun i hi=>hall i bo%
  have:=phase2 B hC ops (ops.toList.drop m) (X:=X) (j:=m) rfl hX h1 h2 hm hw hc hk (W.forget (fin hL h1)) hQ
  have hd:=cntF_drop h1 h2
  rwa [show (ops.toList.drop m).length=0 by simp;omega] at this
 | succ fuel ih =>
  intro X L ι S a w hcnt hX hc h2 hL W
  by_cases h1:∀i,i<m→X[i]? = some true
  ·have:=phase2 B hC ops (ops.toList.drop m) (X:=X) (j:=m) rfl hX h1 h2 hm hw hc hk (W.forget (fin hL h1)) hQ
   have hd:=cntF_drop h1 h2
   rwa [show (ops.toList.drop m).length=fuel+1 by simp;omega] at this
  ·have ⟨i0,hi0,hx0⟩:∃i,i<m∧X[i]?≠some true:=Classical.byContradiction fun hn=>h1 fun i hi=>Classical.byContradiction fun h=>hn ⟨i,hi,h⟩
   have hx0':X[i0]? = some false:=get_false hx0 bo%
   obtain ⟨j,hji,hxj,hbelow⟩:=least hx0'
   have hjm:j<m:=by omega
   have hoj:∃o,(ops.toList.take m)[j]? = some o:=⟨_,List.getElem?_eq_getElem (by simp;omega)⟩
   obtain ⟨oj,hoj⟩:=hoj
   have hoj':ops.toList[j]? = some oj:=by
    rw[List.getElem?_take,if_pos hjm] at hoj;exact hoj
   obtain ⟨δj,_,_,_,fj⟩:=hfree j oj hoj
   have hbj:bigDep oj j=true:=by
    rcases fj with ⟨_,f⟩ | ⟨_,_,_,_,_,f,_⟩
    ·exact f.big
    ·exact f
   have hrj:j∈Region.ready .any ops ⟨X⟩:=ready_mk hX hxj hoj' hbj hbelow
   refine ⟨fun h0=>(by rw[h0] at hrj;cases hrj),fun i hi=>?_⟩
   obtain ⟨g1,o,g2,g3⟩:=ready_of hi hX
   rcases Nat.lt_or_ge i m with him | him
   ·have ho:(ops.toList.take m)[i]? = some o:=by rw[List.getElem?_take,if_pos him];exact g2
    obtain ⟨δ,d1,d2,d3,f⟩:=hfree i o ho
    have hiX:i<X.length:=(List.getElem?_eq_some_iff.1 g1).1
    have hLi:L[i]? = some false:=get_false (fun h=>by rw[hL.sub i h] at g1;cases g1) (by rw[hL.len];exact hiX)
    have hmask:MLe (maskOf o 0 i) L:=fun s hs=>by
     have:=(maskOf_get _ _ _ _ hs).1
     rw[Nat.zero_add] at this
     refine hL.cov s (g3 s this) fun i' hi' hx=>?_
     have e:=soles_ok hsole i' s hi' i o ho this
     rw[Nat.zero_add] at e
     subst e
     rw[hx] at g1;cases g1
    unfold wpOp
    rw[show ops[i]? = some o by simpa using g2]
    have next:∀ {L':List Bool} {ι':Nat→Value} {S':Nat→Prop} {a':Act} {w':World},LOk pr (X.set i true) L'→RepW θ N w0 M0 S0 ι0 (envOf b δs L') ι' S' a' w'→wpAny P .any ops Q fuel ⟨X.set i true⟩ a' w':=fun hL' W' =>
     ih (by have:=cntF_set g1;omega) (by simpa using hX) (hc.set g2 g3) (fun s hs hx=>by
      rcases of_set hx with rfl | hx
      ·omega
      ·exact h2 s hs hx) hL' W'
    rcases f with ⟨p1,f⟩ | ⟨n,p,p1,_,_,_,hgd,hap,ε,e1,e2⟩
    ·refine free_okF B hC ops f.d f.spec (envOf_le hg hb hmask) (envOf_freshN hg hb d1 hLi) f.ok.k W fun ι' S' a' w' W'=>?_
     rw[setB_mk]
     exact next (hL.set hiX) (W'.forget (envOf_set hg d1 hLi))
    ·refine ap_ok B hC ops hap hgd (envOf_le hg hb hmask) (envOf_fresh hg hb d1 hLi) W fun ι' S' a' w' W'=>?_
     rw[setB_mk]
     refine next (hL.take hiX p1) (W'.forget ?_)
     have hLp:(L.set p false)[i]? = some false:=by
      rw[List.getElem?_set]
      split
      ·rename_i e;subst e;rw[if_pos (by rw[hL.len];exact hiX)]
      ·exact hLi
     refine (envOf_set hg d1 hLp).trans (addD_mono δ ?_)
     have hle:Le (envOf b δs (L.set p false)) (envOf b δs L):=envOf_le hg hb fun s hs=>by
      rw[List.getElem?_set] at hs
      split at hs
      ·split at hs <;> cases hs
      ·exact hs
     refine ⟨hle.tm,fun s x hs=>?_,hle.rt,hle.rn⟩
     rw[dropE_obj]
     split
     ·rename_i e
      subst e
      have hds:=(hg.at e1).2 _ e2
      have hno:=(envOf_far (M:=L.set p false) hg hb).obj_none (n:=n) hds (fun ⟨i',δ',q1,q2,q3⟩=>by
       have:=hg.inj q1 e1 q3 e2
       subst this
       rw[List.getElem?_set,if_pos rfl] at q2
       split at q2 <;> cases q2) rfl
      rw[hno] at hs;cases hs
     ·exact hle.ob s x hs
   ·exfalso
    have ho':(ops.toList.drop m)[i-m]? = some o:=by rw[List.getElem?_drop,show m+(i-m)=i by omega];exact g2
    have:=(waits_ok hc hw (i-m) o ho').2 g3 j bo%
    rw[hxj] at this;cases this
theorem drawCh_ok (B:Base P Γ θ w0 M0 S0) (hM:P.follows .mixedOrders=true) (hC:∀g,FnOk P Γ g (Γ.ent g).sg (cal g)) {ops:Array Oper} (h:drawCh Γ N cal ops.toList r k=some q) (W:RepW θ N w0 M0 S0 ι0 r ι S a w)
  (hQ:ExO k q θ N w0 M0 S0 ι0 r Q):wpAny P .any ops Q ops.size (Array.replicate ops.size false) a { w with drawn:=w.drawn+1 }:=by
 unfold drawCh at h
 obtain ⟨hb,h⟩:=bif_some h
 simp only[Bool.and_eq_true] at hb
 obtain ⟨⟨⟨⟨⟨c1,c2⟩,c3⟩,c4⟩,c5⟩,c6⟩:=hb
 obtain ⟨δs,pr,h1,h2,h2',h3⟩:=drawGo4_spec rfl h
 generalize hmm:frontN (closN ops.toList []) ops.toList.length 0 ops.toList=m at *
 generalize hds:dstL (ops.toList.take m)=ds at *
 simp only[List.nil_append,List.length_nil,Nat.zero_add] at h1 h3
 obtain ⟨hsole,h1⟩:=bif_some h1
 have hm:m≤ops.size:=by rw[←hmm];simpa using frontN_le (closN ops.toList []) ops.toList.length ops.toList 0
 have hlen:δs.length=m:=by rw[h2];simp;omega
 have hg:Good ds δs:=good_of h2 (by rw[hds];exact c1) (fun t ht=>hds ▸ ht) fun i o ho=>by
  obtain ⟨δ,d1,d2,d3,_⟩:=h3 i o ho
  exact ⟨δ,d1,d2,d3⟩
 have hgt:∀t,Env.get { r with tm:=delAll ds r.tm } t=if t∈ds then none else r.get t:=fun t=>delAll_get
 have hfar:EFar ds (fun _=>False) { r with tm:=delAll ds r.tm } :=
  ⟨fun t v hm=>⟨.inl (delAll_mem hm),fun n hn=>.inl (farT_ok c4 t v hm n hn)⟩,fun n x hm=>⟨.inl (farO_ok c5 n x hm).1,fun m hmm=>.inl ((farO_ok c5 n x hm).2 m hmm)⟩⟩
 have hle:Le { r with tm:=delAll ds r.tm } r:=⟨fun t v e=>by
  rw[hgt] at e
  split at e
  ·cases e
  ·exact e,fun _ _ e=>e,rfl,rfl⟩
 have hp:Prot r (envOf { r with tm:=delAll ds r.tm } δs (finM pr 0 m)):=by
  have e:=envOf_rt (b:={ r with tm:=delAll ds r.tm }) (l:=δs) (M:=finM pr 0 m)
  refine ⟨e.1,e.2,fun t ht=>?_,fun n hn=>?_⟩
  ·have htd:t ∉ ds:=fun hx=>noneIn_ok c2 t hx ht
   rw[envOf_get htd hg,hgt,if_neg htd]
  ·rw[envOf_obj (farNs_ok c3 n hn) hg];rfl
 have W1:RepW θ N w0 M0 S0 ι0 { r with tm:=delAll ds r.tm } ι S a { w with drawn:=w.drawn+1 }:=(W.forget hle).below ⟨rfl,rfl,rfl,Nat.le_refl _,fun _ _=>rfl⟩
 have hrep:Array.replicate ops.size false=⟨List.replicate ops.size false⟩:=by apply Array.ext';simp
 rw[hrep]
 have hno:∀j,(List.replicate ops.size false)[j]?≠some true:=fun j hj=>by
  rw[List.getElem?_replicate] at hj
  split at hj <;> cases hj
 refine phase1c B hC ops hm hlen hg hfar h3 hsole (by simpa using c6) h1 (fun r' ι' S' a' w' e1 e2 e3=>hQ _ _ _ _ _ e1 e2 (hp.trans e3)) ops.size (L:=List.replicate ops.size false) (cntF_rep _) (by simp) (fun j o _ hj=>absurd hj (hno j)) (fun j _=>hno j) ⟨rfl,fun j h=>h,fun j h=>absurd h (hno j)⟩ (W1.forget ?_)
 have:Le (envOf { r with tm:=delAll ds r.tm } δs (List.replicate ops.size false)) (envOf { r with tm:=delAll ds r.tm } δs []):=envOf_le hg hfar fun i hi=>absurd hi (hno i)
 rw[envOf_nil] at this
 exact this
end Go.VM
namespace Go.VM
open Go.RowKit
variable {P:Program} {a:Act} {w:World} {Q:Exit→Act→World→Prop} {K:Act→World→Prop}
def NormQ (Q:Exit→Act→World→Prop):Exit→Act→World→Prop
 | .normal,a,w=>Q .normal a w
 | _,_,_=>False
theorem normQ_out:¬LetsOut (NormQ Q):=fun ⟨_,_,h⟩=>h
theorem ext_yields {ops:Array Oper} {x:Oper} (hx:isExt x=true) {i:Nat} (hi:ops[i]? = some x) (h:wpOp P ops (NormQ Q) i K a w):∃v,Yields P ops x v a∧K (a.put x.dst v) w:=by
 unfold isExt at hx
 split at hx
 rotate_left
 ·cases hx
 rename_i t ix hg ho
 unfold wpOp at h
 simp only[hi] at h
 rw[if_pos (by simp[Region.wanted,hg])] at h
 rcases h with h | ⟨_,h⟩
 rotate_left
 ·exact absurd h normQ_out
 unfold Oper.wp at h
 have run:∀w',(execOp a.eval x).run P w'=(do let u ←Instr.extract (a.eval t) ix;pure (Next.value u):Sem Next).run P w':=fun w'=>by simp[execOp,ho]
 rw[run] at h
 have key:∃v,(∀w',((do let u ←Instr.extract (a.eval t) ix;pure (Next.value u):Sem Next).run P w')=.ok (.value v) w'):=by
  cases hv:a.eval t with
  | tuple vs =>
   cases hq:vs[ix]? with
   | some v=>exact ⟨v,fun w'=>by simp[Instr.extract,hq]⟩
   | none=>rw[hv] at h;simp[Instr.extract,hq,Oper.upon] at h
  | _=>rw[hv] at h;simp[Instr.extract,Oper.upon] at h
 obtain ⟨v,hv⟩:=key
 refine ⟨v,.inl ⟨by simp[Region.wanted,hg],fun w'=>by rw[run];exact hv w'⟩,?_⟩
 rw[hv] at h
 exact h
theorem yielded_same {ops ops':Array Oper} (h:∀j:Nat,(ops'[j]?).bind (fun o:Oper=>o.dst)=(ops[j]?).bind (fun o:Oper=>o.dst)) (tmps:Array Value):yielded ops' tmps=yielded ops tmps:=by
 funext j
 unfold yielded
 rw[h j]
theorem depOn_with {so:Oper} {n s:Nat}:depOn (withE so n) s=(depOn so s||Nat.beq n s):=by
 unfold depOn withE
 simp only[Array.toList_push,List.any_append,List.any_cons,List.any_nil,Bool.or_false]
 rfl
structure SwapOk (ops ops':Array Oper) (n:Nat) (x so:Oper):Prop where
 size:n+2≤ops.size
 size':ops'.size=ops.size
 same:∀i,i≠n+1→ops'[i]? = ops[i]?
 hx:ops[n]? = some x
 hso:ops[n+1]? = some so
 hso':ops'[n+1]? = some (withE so n)
 ext:isExt x=true
 st:∀cs b,so.op≠.select cs b
 ap:x.apart ops so=true
 bx:bigDep x n=true
 bso:bigDep so (n+1)=true
 all:∀X,Closed ops.toList X→(∀s,depOn so s=true→X[s]? = some true)→∀s,s<n→X[s]? = some true
 far:∀(j:Nat) (o:Oper),n+2≤j→ops[j]? = some o→depOn o n=true∧depOn o (n+1)=true
theorem SwapOk.dst {ops ops':Array Oper} {n:Nat} {x so:Oper} (h:SwapOk ops ops' n x so) (j:Nat):(ops'[j]?).bind (fun o:Oper=>o.dst)=(ops[j]?).bind (fun o:Oper=>o.dst):=by
 by_cases e:j=n+1
 ·subst e;rw[h.hso,h.hso'];rfl
 ·rw[h.same j e]
theorem SwapOk.wpOp {ops ops':Array Oper} {n:Nat} {x so:Oper} (h:SwapOk ops ops' n x so) {i:Nat} (hh:wpOp P ops' Q i K a w):wpOp P ops Q i K a w:=by
 have hy:=yielded_same h.dst
 unfold Go.wpOp at hh ⊢
 by_cases e:i=n+1
 ·subst e
  rw[h.hso'] at hh
  rw[h.hso]
  simp only at hh ⊢
  rw[hy] at hh
  exact hh
 ·rw[h.same i e,hy] at hh
  exact hh
theorem ready_iff {ops:Array Oper} {X:List Bool} {i:Nat} {o:Oper} (hl:X.length=ops.size) (h0:X[i]? = some false) (ho:ops.toList[i]? = some o) (hd:∀s,depOn o s=true→X[s]? = some true):i∈Region.ready .any ops ⟨X⟩:=by
 refine mem_ready.2 ⟨by rw[getD_mk,h0];rfl,o,by simpa using ho,fun e he hbb=>?_⟩
 rw[getD_mk,hd e.on (by unfold depOn;exact List.any_eq_true.2 ⟨e,by simpa using he,by rw[hbb];simp⟩)]
 rfl
theorem SwapOk.sub {ops ops':Array Oper} {n:Nat} {x so:Oper} (h:SwapOk ops ops' n x so) {X:List Bool} (hl:X.length=ops.size) {i:Nat} (hi:i∈Region.ready .any ops' ⟨X⟩):i∈Region.ready .any ops ⟨X⟩:=by
 obtain ⟨h0,o,ho,hd⟩:=ready_of hi (by rw[h.size'];exact hl)
 by_cases e:i=n+1
 ·subst e
  have ho2:ops'[n+1]? = some o:=by simpa using ho
  rw[h.hso'] at ho2
  cases ho2
  exact ready_iff hl h0 (by simpa using h.hso) fun s hs=>hd s (by rw[depOn_with,hs];rfl)
 ·have ho2:ops'[i]? = some o:=by simpa using ho
  rw[h.same i e] at ho2
  exact ready_iff hl h0 (by simpa using ho2) hd
theorem no_ready {ops:Array Oper} {X:List Bool} (hl:X.length=ops.size) (h:∀i,i<X.length→X[i]? = some true):Region.ready .any ops ⟨X⟩=[]:=by
 refine List.eq_nil_iff_forall_not_mem.2 fun i hi=>?_
 obtain ⟨h0,_⟩:=ready_of hi hl
 rw[h i (List.getElem?_eq_some_iff.1 h0).1] at h0
 cases h0
theorem ext_sel {x:Oper} (h:isExt x=true):∀cs b,x.op≠.select cs b:=by
 unfold isExt at h
 split at h
 ·rename_i e;intro cs b hh;rw[e] at hh;cases hh
 ·cases h
theorem SwapOk.any {ops ops':Array Oper} {n:Nat} {x so:Oper} (h:SwapOk ops ops' n x so):∀(b fuel:Nat) {X:List Bool} {a:Act} {w:World},fuel≤b→cntF X=fuel→X.length=ops.size→Closed ops.toList X→wpAny P .any ops' (NormQ Q) fuel ⟨X⟩ a w→wpAny P .any ops (NormQ Q) fuel ⟨X⟩ a w:=by
 intro b
 induction b with
 | zero =>
  intro fuel X a w hb hc hl hcl hw
  obtain rfl:fuel=0:=by omega
  exact ⟨no_ready hl fun i hi=>cntF_zero hc i hi,hw.2⟩
 | succ b ih =>
  intro fuel X a w hb hc hl hcl hw
  cases fuel with
  | zero=>exact ⟨no_ready hl fun i hi=>cntF_zero hc i hi,hw.2⟩
  | succ fuel =>
  have sub:Region.ready .any ops ⟨X⟩=[]→Region.ready .any ops' ⟨X⟩=[]:=fun h0=>List.eq_nil_iff_forall_not_mem.2 fun i hi=>by
   have:=h.sub hl hi
   rw[h0] at this;cases this
  refine ⟨fun h0=>hw.1 (sub h0),fun i hi=>?_⟩
  obtain ⟨g1,o,g2,g3⟩:=ready_of hi hl
  have hset:cntF (X.set i true)=fuel:=by have:=cntF_set g1;omega
  by_cases hi':i∈Region.ready .any ops' ⟨X⟩
  ·refine wpOp_mono (fun a w hh=>?_) (h.wpOp (hw.2 i hi'))
   rw[setB_mk] at hh ⊢
   exact ih fuel bo% hset (by simpa using hl) (hcl.set g2 g3) hh
  ·have hin:i=n+1:=by
    by_cases e:i=n+1
    ·exact e
    ·refine absurd (ready_iff (by rw[h.size'];exact hl) g1 ?_ g3) hi'
     have:ops[i]? = some o:=by simpa using g2
     rw[←h.same i e] at this
     simpa using this
   subst hin
   have hsz:=h.size
   have ho2:ops[n+1]? = some o:=by simpa using g2
   rw[h.hso] at ho2
   cases ho2
   have hlow:∀s,s<n→X[s]? = some true:=h.all X hcl g3
   have hXn:X[n]? = some false:=by
    have hnl:n<X.length:=by omega
    rw[List.getElem?_eq_getElem hnl]
    cases hq:X[n] with
    | false=>rfl
    | true =>
     refine absurd (ready_iff (by rw[h.size'];exact hl) g1 (by simpa using h.hso') fun s hs=>?_) hi'
     rw[depOn_with,Bool.or_eq_true] at hs
     rcases hs with hs | hs
     ·exact g3 s hs
     ·rw[←Nat.eq_of_beq_eq_true hs,List.getElem?_eq_getElem hnl,hq]
   have hx':ops'[n]? = some x:=by rw[h.same n bo%];exact h.hx
   have hxl:ops.toList[n]? = some x:=by simpa using h.hx
   have r1:=hw.2 n (ready_mk (by rw[h.size'];exact hl) hXn (by simpa using hx') h.bx hlow)
   have r1:=h.wpOp r1
   obtain ⟨v,hy,r2⟩:=ext_yields h.ext h.hx r1
   rw[setB_mk] at r2
   have hc1:cntF (X.set n true)=fuel:=by have:=cntF_set hXn;omega
   have g1':(X.set n true)[n+1]? = some false:=by rw[List.getElem?_set,if_neg bo%];exact g1
   have hxd:∀s,depOn x s=true→X[s]? = some true:=fun s hs=>by
    obtain ⟨e,he,hb2,rfl⟩:=depOn_ok hs
    exact hlow _ (bigDep_ok h.bx he hb2)
   cases fuel with
   | zero =>
    have:=cntF_zero hc1 (n+1) (by simp;omega)
    rw[g1'] at this;cases this
   | succ f =>
    have hlow2:∀s,s<n+1→(X.set n true)[s]? = some true:=fun s hs=>by
     rw[List.getElem?_set]
     split
     ·rw[if_pos bo%]
     ·exact hlow s bo%
    have hbw:bigDep (withE so n) (n+1)=true:=by
     unfold bigDep withE
     simp only[Array.toList_push,List.all_append,Bool.and_eq_true]
     refine ⟨h.bso,?_⟩
     simp only[List.all_cons,List.all_nil,Bool.and_true,Bool.or_eq_true]
     exact .inr (by simp[Nat.blt_eq])
    have r3:=r2.2 (n+1) (ready_mk (by rw[h.size'];simpa using hl) g1' (by simpa using h.hso') hbw hlow2)
    have r3:=h.wpOp r3
    have r4:=wpOp_put h.hso h.ap (ext_sel h.ext) h.st (fun c a w hq=>hq) hy r3
    refine wpOp_mono (fun a1 w1 ⟨hy1,hk⟩=>?_) r4
    rw[setB_mk] at hk ⊢
    have hn2:n∈Region.ready .any ops ⟨X.set (n+1) true⟩:=ready_mk (by simpa using hl) (by rw[List.getElem?_set,if_neg bo%];exact hXn) hxl h.bx fun j hj=>by
     rw[List.getElem?_set,if_neg bo%];exact hlow j hj
    refine ⟨fun h0=>(by rw[h0] at hn2;cases hn2),fun i hi=>?_⟩
    obtain ⟨q1,o',q2,q3⟩:=ready_of hi (by simpa using hl)
    have hin:i=n:=by
     rw[List.getElem?_set] at q1
     split at q1
     ·split at q1 <;> cases q1
     ·rename_i hne
      rcases Nat.lt_trichotomy i n with hh | hh | hh
      ·rw[hlow i hh] at q1;cases q1
      ·exact hh
      ·have hd:=(h.far i o' bo% (by simpa using q2)).1
       have:=q3 n hd
       rw[List.getElem?_set,if_neg bo%,hXn] at this
       cases this
    subst hin
    refine hy1.wpOp h.hx ?_
    rw[setB_mk,List.set_comm _ _ bo%]
    have hc2:cntF ((X.set i true).set (i+1) true)=f:=by have:=cntF_set g1';omega
    have hcl1:Closed ops.toList (X.set i true):=hcl.set hxl hxd
    exact ih f bo% hc2 (by simpa using hl) (hcl1.set (by simpa using h.hso) fun s hs=>set_true (g3 s hs)) hk
end Go.VM
namespace Go.VM
open Go.RowKit
variable {P:Program} {Γ:Ctx} {θ:Nat→Value} {N:Nat} {w0:World} {M0 S0:Nat→Prop} {ι0:Nat→Value} {r r2 b bb:Env} {ι:Nat→Value} {S:Nat→Prop} {a:Act} {w:World} {R:Type} {cal:Cal Γ} {k:Env→Option R} {q:R} {o:Oper} {ds:List Nat}
 {Q:Exit→Act→World→Prop} {K':Act→World→Prop} {n:Nat} {cs:List CV}
theorem updO_obj (n:Nat) (cs:List CV) (r:Env) (m:Nat):(updO n cs r).obj m=if n=m then some (.box cs) else r.obj m:=by
 show look ((n,Ob.box cs) :: del n r.ob) m=_
 rw[look_cons,look_del]
 by_cases e:n=m
 ·rw[if_pos e,if_pos e]
 ·rw[if_neg e,if_neg e,if_neg e];rfl
theorem updO_mono (h:Le r r2):Le (updO n cs r) (updO n cs r2) :=
 ⟨h.tm,fun m x e=>by
  rw[updO_obj] at e ⊢
  split at e
  ·rename_i hm;rw[if_pos hm];exact e
  ·rename_i hm;rw[if_neg hm];exact h.ob m x e,h.rt,h.rn⟩
theorem Le.upd (h:Le r r2) (hn:r.obj n=none):Le r (updO n cs r2) :=
 ⟨h.tm,fun m x e=>by
  rw[updO_obj]
  split
  ·rename_i hm;subst hm;rw[hn] at e;cases e
  ·exact h.ob m x e,h.rt,h.rn⟩
theorem updO_addD {δ:Dl} (hn:look δ.ob n=none):Le (updO n cs (addD δ r)) (addD δ (updO n cs r)):=by
 refine ⟨fun t v e=>?_,fun m x e=>?_,rfl,rfl⟩
 ·have e:(addD δ r).get t=some v:=e
  rw[addD_get] at e ⊢
  exact e
 ·rw[updO_obj] at e
  rw[addD_obj,updO_obj]
  split at e
  ·rename_i hm;subst hm;rw[hn,Option.none_or,if_pos rfl];exact e
  ·rename_i hm
   rw[if_neg hm]
   rw[addD_obj] at e;exact e
theorem storeAt_spec {kk:Nat→List CV→Option R} (hs:isStore o=true) (h:storeAt Γ r o kk=some q):∃n cs t x y off,kk n cs=some q∧o.op=.store t x y∧r.evc Γ x=some (.ref n off)∧n ∉ r.rn∧∀(R2:Type) (r2:Env) (k2:Env→Option R2),Le r r2→step Γ N cal r2 o k2=k2 (updO n cs r2):=by
 unfold storeAt at h
 split at h
 ·rename_i t x y ho
  have hd:o.dst=none:=by
   unfold isStore at hs
   split at hs
   ·assumption
   ·cases hs
  split at h
  ·rename_i τ p tv h1 h2 h3
   obtain ⟨hb,h⟩:=bif_some h
   split at h
   ·rename_i n off _
    split at h
    ·rename_i old hn
     obtain ⟨hle,h⟩:=bif_some h
     obtain ⟨hrn,h⟩:=bif_some h
     refine ⟨n,_,t,x,y,off,h,ho,h2,by simpa [mem_false] using hrn,fun R2 r2 k2 hl=>?_⟩
     have hrn2:(!mem n r2.rn)=true:=by rw[hl.rn];exact hrn
     simp only[step,ho,h1,hl.evc h2,hl.eval h3,hb,cond_true,Env.wr,hl.ob _ _ hn,hle,Env.upd,hrn2,hd,Env.put]
     rfl
    ·cases h
   ·cases h
  ·cases h
 ·cases h
theorem hideB_le (ops:List Oper) (b:Env) (o:Oper):Le (hideB Γ ops b o) b:=by
 have e0:Le { b with ob:=[] } b:=⟨fun _ _ h=>h,fun n x h=>(by cases h),rfl,rfl⟩
 unfold hideB
 split
 ·split
  ·rename_i n off _
   exact ⟨fun _ _ h=>h,fun m x h=>by
    have h:look (del n b.ob) m=some x:=h
    rw[look_del] at h
    split at h
    ·cases h
    ·exact h,rfl,rfl⟩
  ·exact e0
 ·exact e0
theorem isNone_ok {α:Type} {x:Option α} (h:isNone x=true):x=none:=by
 cases x with
 | none=>rfl
 | some _=>cases h
theorem noDep_ok {s:Nat}:∀ {os:List Oper} {bs:List Bool},noDep s os bs=true→∀(i:Nat) (o:Oper),os[i]? = some o→bs[i]? = some true→o.dst≠some s
 | [],_,_,i,o,h,_=>by simp at h
 | p :: os,[],_,i,o,_,h=>by simp at h
 | p :: os,true :: bs,hd,i,o,h1,h2=>by
  simp only[noDep,Bool.and_eq_true] at hd
  cases i with
  | zero =>
   cases h1
   intro e
   rw[e] at hd
   simp[Nat.beq_refl] at hd
  | succ i=>exact noDep_ok hd.2 i o (by simpa using h1) (by simpa using h2)
 | p :: os,false :: bs,hd,i,o,h1,h2=>by
  cases i with
  | zero=>simp at h2
  | succ i=>exact noDep_ok (os:=os) (bs:=bs) hd i o (by simpa using h1) (by simpa using h2)
theorem apartL_ok {ops:List Oper} {s:Nat}:∀ {os:List Oper} {bs:List Bool} {j:Nat},apartL ops s j os bs=true→∀(i:Nat) (o:Oper),os[i]? = some o→bs[i]? = some false→o.dst≠some s∧noDep s ops (maskOf o 0 (j+i))=true
 | [],_,_,_,i,o,h,_=>by simp at h
 | p :: os,[],_,_,i,o,_,h=>by simp at h
 | p :: os,false :: bs,j,hd,i,o,h1,h2=>by
  simp only[apartL,Bool.and_eq_true] at hd
  cases i with
  | zero =>
   cases h1
   refine ⟨fun e=>?_,hd.1.2⟩
   rw[e] at hd
   simp[Nat.beq_refl] at hd
  | succ i =>
   have:=apartL_ok hd.2 i o (by simpa using h1) (by simpa using h2)
   rwa [show j+1+i=j+(i+1) by omega] at this
 | p :: os,true :: bs,j,hd,i,o,h1,h2=>by
  cases i with
  | zero=>simp at h2
  | succ i =>
   have:=apartL_ok (os:=os) (bs:=bs) (j:=j+1) hd i o (by simpa using h1) (by simpa using h2)
   rwa [show j+1+i=j+(i+1) by omega] at this
theorem envOf_objS {n:Nat}:∀ {l:List Dl} {M:List Bool},Good ds l→(∀(i:Nat) (δ:Dl),l[i]? = some δ→M[i]? = some true→δ.d≠some (n / 64))→(envOf b l M).obj n=b.obj n
 | [],M,_,_=>by cases M <;> rfl
 | δ :: l,[],_,_=>rfl
 | δ :: l,true :: M,hg,h=>by
  show (addD δ (envOf b l M)).obj n=_
  rw[addD_obj]
  cases hq:look δ.ob n with
  | some x=>exact absurd (hg.1.k n (keys_mem2 (look_mem2 hq))) (h 0 δ rfl rfl)
  | none=>rw[Option.none_or];exact envOf_objS hg.2.2 fun i ε h1 h2=>h (i+1) ε (by simpa using h1) (by simpa using h2)
 | δ :: l,false :: M,hg,h=>envOf_objS (l:=l) (M:=M) hg.2.2 fun i ε h1 h2=>h (i+1) ε (by simpa using h1) (by simpa using h2)
theorem envOf_base (h:Le bb b):∀ {l:List Dl} {M:List Bool},Le (envOf bb l M) (envOf b l M)
 | [],M=>by cases M <;> exact h
 | δ :: l,[]=>h
 | δ :: l,true :: M=>addD_mono δ (envOf_base h)
 | δ :: l,false :: M=>envOf_base h (l:=l) (M:=M)
structure FreeOp2 (Γ:Ctx) (N:Nat) (cal:Cal Γ) (ops:List Oper) (ds:List Nat) (b bb:Env) (δs:List Dl) (sel:Bool) (i:Nat) (o:Oper) (δ:Dl):Prop where
 d:δ.d=o.dst
 ok:DlOk ds δ
 big:bigDep o i=true
 spec:GSpec Γ N cal ops (envOf (bif sel then b else bb) δs (maskOf o 0 i)) o δ
theorem drawGo2_spec {ops:List Oper}:∀ {os:List Oper} {sel:List Bool} {acc:List Dl} {k:List Dl→Option R},drawGo2 Γ N cal ops ds b bb os sel acc k=some q →
  ∃δs,k (acc++δs)=some q∧δs.length=os.length∧∀(i:Nat) (o:Oper),os[i]? = some o→∃δ s,δs[i]? = some δ∧sel[i]? = some s∧FreeOp2 Γ N cal ops ds b bb (acc++δs) s (acc.length+i) o δ
 | [],sel,acc,k,h=>⟨[],by simpa [drawGo2] using h,rfl,fun i o h=>by simp at h⟩
 | o :: os,[],acc,k,h=>by cases h
 | o :: os,s :: sel,acc,k,h=>by
  simp only[drawGo2,litG_eq] at h
  obtain ⟨hc,h⟩:=bif_some h
  simp only[Bool.and_eq_true] at hc
  obtain ⟨⟨hm,hbig⟩,ha⟩:=hc
  obtain ⟨δ,h,hd,hs⟩:=gstep_spec hm ha h
  obtain ⟨hok,h⟩:=bif_some h
  obtain ⟨δs,g1,g2,g3⟩:=drawGo2_spec h
  refine ⟨δ :: δs,by simpa using g1,by simp[g2],fun i o' ho'=>?_⟩
  cases i with
  | zero =>
   cases ho'
   refine ⟨δ,s,rfl,rfl,hd,okDl_ok hok,hbig,?_⟩
   rw[Nat.add_zero,envOf_prefix (by rw[maskOf_len];exact Nat.le_refl _)]
   exact hs
  | succ i =>
   obtain ⟨ε,s',e1,e0,e2⟩:=g3 i o' (by simpa using ho')
   refine ⟨ε,s',by simpa using e1,by simpa using e0,?_⟩
   have:acc++[δ]++δs=acc++δ :: δs:=by simp
   rw[this,List.length_append] at e2
   rwa [show acc.length+(i+1)=acc.length + [δ].length+i by simp;omega]
theorem unselD_mem:∀ {l:List Oper} {bs:List Bool} {i:Nat} {o:Oper} {t:Nat},l[i]? = some o→bs[i]? = some false→o.dst=some t→t∈unselD l bs
 | [],bs,i,o,t,h,_,_=>by simp at h
 | p :: l,[],i,o,t,_,h,_=>by simp at h
 | p :: l,true :: bs,0,o,t,h1,h2,h3=>by simp at h2
 | p :: l,false :: bs,0,o,t,h1,h2,h3=>by
  cases h1
  simp[unselD,h3]
 | p :: l,true :: bs,i+1,o,t,h1,h2,h3=>by
  simp only[unselD]
  exact unselD_mem (l:=l) (bs:=bs) (i:=i) (by simpa using h1) (by simpa using h2) h3
 | p :: l,false :: bs,i+1,o,t,h1,h2,h3=>by
  simp only[unselD]
  exact List.mem_append_right _ (unselD_mem (l:=l) (bs:=bs) (i:=i) (by simpa using h1) (by simpa using h2) h3)
theorem fr_upd {m:Nat} (h:Fr r m) (hn:n≠m) (hc:m ∉ cnames cs):Fr (updO n cs r) m:=by
 refine ⟨h.1,?_⟩
 show freshO m ((n,Ob.box cs) :: del n r.ob)=true
 have key:∀l:List (Nat×Ob),freshO m l=true→freshO m (del n l)=true:=fun l=>by
  induction l with
  | nil=>intro h;exact h
  | cons p l ih =>
   obtain ⟨s,x⟩:=p
   intro h
   simp only[freshO,Bool.and_eq_true] at h
   simp only[del]
   cases Nat.beq s n with
   | true=>exact ih h.2
   | false =>
    simp only[cond_false,freshO,Bool.and_eq_true]
    exact ⟨h.1,ih h.2⟩
 simp only[freshO,Bool.and_eq_true,Bool.not_eq_true',mem_false,nbeq,decide_eq_false_iff_not]
 exact ⟨⟨hn,hc⟩,key _ h.2⟩
end Go.VM
namespace Go.VM
open Go.RowKit
variable {P:Program} {Γ:Ctx} {θ:Nat→Value} {N:Nat} {w0:World} {M0 S0:Nat→Prop} {ι0:Nat→Value} {r r2 b bb:Env} {ι:Nat→Value} {S:Nat→Prop} {a:Act} {w:World} {R:Type} {cal:Cal Γ} {k:Env→Option R} {q:R} {o:Oper} {ds:List Nat}
 {Q:Exit→Act→World→Prop} {K':Act→World→Prop} {n:Nat} {cs:List CV}
theorem envOf_take:∀ {l:List Dl} {M:List Bool},envOf b l M=envOf b l (M.take l.length)
 | [],M=>by simp only[List.length_nil,List.take_zero];cases M <;> rfl
 | δ :: l,[]=>rfl
 | δ :: l,true :: M=>by
  show addD δ (envOf b l M)=addD δ (envOf b l (M.take l.length))
  rw[←envOf_take]
 | δ :: l,false :: M=>envOf_take (l:=l) (M:=M)
theorem envOf_le2 {l:List Dl} {M L:List Bool} (hg:Good ds l) (hb:EFar ds (fun _=>False) b) (h:∀(i:Nat),i<l.length→M[i]? = some true→L[i]? = some true):Le (envOf b l M) (envOf b l L):=by
 rw[envOf_take (M:=M)]
 refine envOf_le hg hb fun i hi=>?_
 rw[List.getElem?_take] at hi
 split at hi
 ·rename_i hlt;exact h i hlt hi
 ·cases hi
def EX (b:Env) (δs:List Dl) (m n:Nat) (cs:List CV) (X:List Bool):Env:=if X[m]? = some true then updO n cs (envOf b δs X) else envOf b δs X
theorem phase1s (B:Base P Γ θ w0 M0 S0) (hC:∀g,FnOk P Γ g (Γ.ent g).sg (cal g)) (ops:Array Oper) {m:Nat} (hm:m+1≤ops.size) {δs:List Dl} (hlen:δs.length=m) (hg:Good ds δs) (hb:EFar ds (fun _=>False) b) {sel:List Bool} {so:Oper}
  (hso:ops.toList[m]? = some so) (hst:isStore so=true) (hbig:bigDep so m=true) (hstore:∀(R2:Type) (r2:Env) (k2:Env→Option R2),Le (envOf b δs (maskOf so 0 m)) r2→step Γ N cal r2 so k2=k2 (updO n cs r2))
  (hbb:Le bb b) (hbn:bb.obj n=none) (hn:∀(i:Nat) (o:Oper),(ops.toList.take m)[i]? = some o→sel[i]? = some false→o.dst≠some (n / 64)∧noDep (n / 64) (ops.toList.take m) (maskOf o 0 i)=true) (hcs:∀(i:Nat) (o:Oper),(ops.toList.take m)[i]? = some o→sel[i]? = some false→∀t,o.dst=some t→∀n',n'∈cnames cs→n' / 64≠t)
  (hsel:∀X,Closed ops.toList X→(∀s,depOn so s=true→X[s]? = some true)→∀(j:Nat),sel[j]? = some true→X[j]? = some true)
  (hfree:∀(i:Nat) (o:Oper),(ops.toList.take m)[i]? = some o→∃δ s,δs[i]? = some δ∧sel[i]? = some s∧FreeOp2 Γ N cal ops.toList ds b bb δs s i o δ) (hw:waits (closN ops.toList []) ops.size (m+1) (ops.toList.drop (m+1))=true)
  (hk:execOps Γ N cal ops.toList (ops.toList.drop (m+1)) (updO n cs (envOf b δs (δs.map fun _=>true))) k=some q) (hQ:ExO k q θ N w0 M0 S0 ι0 (updO n cs (envOf b δs (δs.map fun _=>true))) Q):∀(fuel:Nat) {X:List Bool} {ι:Nat→Value} {S:Nat→Prop} {a:Act} {w:World},
  cntF X=fuel→X.length=ops.size→Closed ops.toList X→(∀j,m+1≤j→X[j]?≠some true)→RepW θ N w0 M0 S0 ι0 (EX b δs m n cs X) ι S a w→wpAny P .any ops Q fuel ⟨X⟩ a w:=by
 have last:∀ {fuel:Nat} {X:List Bool} {ι:Nat→Value} {S:Nat→Prop} {a:Act} {w:World},cntF X=fuel→X.length=ops.size→Closed ops.toList X→(∀j,m+1≤j→X[j]?≠some true)→RepW θ N w0 M0 S0 ι0 (EX b δs m n cs X) ι S a w →
   (∀i,i<m+1→X[i]? = some true)→wpAny P .any ops Q fuel ⟨X⟩ a w:=fun {fuel X ι S a w} hcnt hX hc h2 W h1=>by
  have hle:Le (envOf b δs (δs.map fun _=>true)) (envOf b δs X):=envOf_le hg hb fun i hi=>h1 i (by have:=(List.getElem?_eq_some_iff.1 hi).1;simp at this;omega)
  unfold EX at W
  rw[if_pos (h1 m bo%)] at W
  have:=phase2 B hC ops (ops.toList.drop (m+1)) (X:=X) (j:=m+1) rfl hX h1 h2 hm hw hc hk (W.forget (updO_mono hle)) hQ
  have hd:=cntF_drop h1 h2
  rwa [show (ops.toList.drop (m+1)).length=fuel by simp;omega] at this
 intro fuel
 induction fuel with
 | zero =>
  intro X ι S a w hcnt hX hc h2 W
  have hall:=cntF_zero hcnt
  exact last hcnt hX hc h2 W fun i hi=>hall i bo%
 | succ fuel ih =>
  intro X ι S a w hcnt hX hc h2 W
  by_cases h1:∀i,i<m+1→X[i]? = some true
  ·exact last hcnt hX hc h2 W h1
  ·have ⟨i0,hi0,hx0⟩:∃i,i<m+1∧X[i]?≠some true:=Classical.byContradiction fun hn=>h1 fun i hi=>Classical.byContradiction fun h=>hn ⟨i,hi,h⟩
   have hx0':X[i0]? = some false:=by
    have hlt:i0<X.length:=by omega
    cases hq:X[i0]? with
    | none=>rw[List.getElem?_eq_getElem hlt] at hq;cases hq
    | some x=>cases x with
     | true=>exact absurd hq hx0
     | false=>rfl
   obtain ⟨j,hji,hxj,hbelow⟩:=least hx0'
   have hrj:j∈Region.ready .any ops ⟨X⟩:=by
    rcases Nat.lt_or_ge j m with hjm | hjm
    ·obtain ⟨oj,hoj⟩:∃o,(ops.toList.take m)[j]? = some o:=⟨_,List.getElem?_eq_getElem (by simp;omega)⟩
     have hoj':ops.toList[j]? = some oj:=by
      rw[List.getElem?_take,if_pos hjm] at hoj;exact hoj
     obtain ⟨δj,_,_,_,fj⟩:=hfree j oj hoj
     exact ready_mk hX hxj hoj' fj.big hbelow
    ·have:j=m:=by omega
     subst this
     exact ready_mk hX hxj hso hbig hbelow
   refine ⟨fun h0=>(by rw[h0] at hrj;cases hrj),fun i hi=>?_⟩
   obtain ⟨g1,o,g2,g3⟩:=ready_of hi hX
   have hset:cntF (X.set i true)=fuel:=by have:=cntF_set g1;omega
   have hset2:i<m+1→∀j,m+1≤j→(X.set i true)[j]?≠some true:=fun him s hs hx=>by
    rcases of_set hx with rfl | hx
    ·omega
    ·exact h2 s hs hx
   rcases Nat.lt_or_ge i m with him | him
   ·have ho:(ops.toList.take m)[i]? = some o:=by rw[List.getElem?_take,if_pos him];exact g2
    obtain ⟨δ,s,d1,ds1,f⟩:=hfree i o ho
    have hmask:MLe (maskOf o 0 i) X:=fun s hs=>by
     have:=(maskOf_get _ _ _ _ hs).1
     rw[Nat.zero_add] at this
     exact g3 s this
    have hneq:∀x,(X.set i true)[m]? = some x↔X[m]? = some x:=fun x=>by
     rw[List.getElem?_set,if_neg (show i≠m by omega)]
    have hown:=(hg.at d1).1.k
    unfold wpOp
    rw[show ops[i]? = some o by simpa using g2]
    by_cases hXm:X[m]? = some true
    ·have hsf:s=false:=by
      cases s with
      | false=>rfl
      | true =>
       have:=hsel X hc (hc m so hso hXm) i ds1
       rw[g1] at this;cases this
     subst hsf
     obtain ⟨hn1,hn2⟩:=hn i o ho ds1
     have hlk:look δ.ob n=none:=by
      cases hq:look δ.ob n with
      | none=>rfl
      | some x=>exact absurd (f.d ▸ hown n (keys_mem2 (look_mem2 hq))) hn1
     have hob:(envOf bb δs (maskOf o 0 i)).obj n=none:=by
      rw[envOf_objS hg fun s ε hs1 hs2=>?_]
      ·exact hbn
      ·have hlt:=(maskOf_get _ _ _ _ hs2).2
       obtain ⟨os,hos⟩:∃o,(ops.toList.take m)[s]? = some o:=⟨_,List.getElem?_eq_getElem (by simp;omega)⟩
       obtain ⟨ε',s',e1,_,f'⟩:=hfree s os hos
       rw[hs1] at e1
       cases e1
       rw[f'.d]
       exact noDep_ok hn2 s os hos hs2
     unfold EX at W
     rw[if_pos hXm] at W
     refine free_ok B hC ops f.d f.spec ?_ (fun n' hn'=>?_) W fun ι' S' a' w' W'=>?_
     ·exact ((envOf_base hbb).trans (envOf_le hg hb hmask)).upd hob
     ·refine fr_upd (envOf_fresh hg hb d1 g1 n' hn') (fun e=>?_) fun hx=>?_
      ·subst e;exact hn1 (f.d ▸ hown n hn')
      ·exact hcs i o ho ds1 _ (f.d ▸ hown n' hn') n' hx rfl
     ·rw[setB_mk]
      refine ih (ι:=ι') (S:=S') hset (by simpa using hX) (hc.set g2 g3) (hset2 bo%) ?_
      unfold EX
      rw[if_pos ((hneq _).2 hXm)]
      exact W'.forget ((updO_mono (envOf_set hg d1 g1)).trans (updO_addD hlk))
    ·unfold EX at W
     rw[if_neg hXm] at W
     refine free_ok B hC ops f.d f.spec ?_ (envOf_fresh hg hb d1 g1) W fun ι' S' a' w' W'=>?_
     ·cases s with
      | true=>exact envOf_le hg hb hmask
      | false=>exact (envOf_base hbb).trans (envOf_le hg hb hmask)
     ·rw[setB_mk]
      refine ih (ι:=ι') (S:=S') hset (by simpa using hX) (hc.set g2 g3) (hset2 bo%) ?_
      unfold EX
      rw[if_neg (fun h=>hXm ((hneq _).1 h))]
      exact W'.forget (envOf_set hg d1 g1)
   ·rcases Nat.lt_or_ge i (m+1) with him2 | him2
    ·have:i=m:=by omega
     subst this
     rw[hso] at g2
     cases g2
     have hg0:so.guard=none:=by
      unfold isStore at hst
      split at hst
      ·assumption
      ·cases hst
     unfold wpOp
     rw[show ops[i]? = some so by simpa using hso]
     simp only
     rw[if_pos (by simp[Region.wanted,hg0])]
     unfold EX at W
     rw[if_neg (by rw[g1];simp)] at W
     refine .inl (step_ok (k:=fun r=>some r) (q:=updO n cs (envOf b δs X)) B hC W (hstore Env _ _ (envOf_le hg hb fun s hs=>?_)) fun r' ι' S' a' w' h' W' _=>?_)
     ·have:=(maskOf_get _ _ _ _ hs).1
      rw[Nat.zero_add] at this
      exact g3 s this
     ·cases h'
      rw[setB_mk]
      refine ih (ι:=ι') (S:=S') hset (by simpa using hX) (hc.set hso g3) (hset2 him2) ?_
      unfold EX
      rw[if_pos (by rw[List.getElem?_set,if_pos rfl,if_pos bo%])]
      refine W'.forget (updO_mono (envOf_le2 hg hb fun s hs hx=>?_))
      rcases of_set hx with rfl | hx
      ·omega
      ·exact hx
    ·exfalso
     have ho':(ops.toList.drop (m+1))[i-(m+1)]? = some o:=by rw[List.getElem?_drop,show m+1+(i-(m+1))=i by omega];exact g2
     have:=(waits_ok hc hw (i-(m+1)) o ho').2 g3 j bo%
     rw[hxj] at this;cases this
theorem drawS_ok (B:Base P Γ θ w0 M0 S0) (hM:P.follows .mixedOrders=true) (hC:∀g,FnOk P Γ g (Γ.ent g).sg (cal g)) {ops:Array Oper} {m:Nat} {so:Oper} (hso:ops.toList[m]? = some so) (h:drawS Γ N cal ops.toList r m so k=some q)
  (W:RepW θ N w0 M0 S0 ι0 r ι S a w) (hQ:ExO k q θ N w0 M0 S0 ι0 r Q):wpAny P .any ops Q ops.size (Array.replicate ops.size false) a { w with drawn:=w.drawn+1 }:=by
 unfold drawS at h
 obtain ⟨hb,h⟩:=bif_some h
 simp only[Bool.and_eq_true] at hb
 obtain ⟨⟨⟨⟨⟨⟨⟨c1,c2⟩,c3⟩,c4⟩,c5⟩,c6⟩,c7⟩,c8⟩:=hb
 obtain ⟨δs,h1,h2,h3⟩:=drawGo2_spec h
 simp only[List.nil_append,List.length_nil,Nat.zero_add] at h1 h3
 obtain ⟨n,cs,t,x,y,off,h1,hop,hev,hrn0,hstore⟩:=storeAt_spec (cal:=cal) (N:=N) c7 h1
 obtain ⟨hfar2,h1⟩:=bif_some h1
 simp only[Bool.and_eq_true] at hfar2
 obtain ⟨⟨hnb,hap⟩,hcf⟩:=hfar2
 have hmlt:m<ops.size:=by simpa using (List.getElem?_eq_some_iff.1 hso).1
 generalize hds:dstL (ops.toList.take m)=ds at *
 have hlen:δs.length=m:=by rw[h2];simp;omega
 have hg:Good ds δs:=good_of h2 (by rw[hds];exact c1) (fun t ht=>hds ▸ ht) fun i o ho=>by
  obtain ⟨δ,s,d1,_,f⟩:=h3 i o ho
  exact ⟨δ,d1,f.d,f.ok⟩
 have hgt:∀t,Env.get { r with tm:=delAll ds r.tm } t=if t∈ds then none else r.get t:=fun t=>delAll_get
 have hfar:EFar ds (fun _=>False) { r with tm:=delAll ds r.tm } :=
  ⟨fun t v hm=>⟨.inl (delAll_mem hm),fun n hn=>.inl (farT_ok c4 t v hm n hn)⟩,fun n x hm=>⟨.inl (farO_ok c5 n x hm).1,fun m hmm=>.inl ((farO_ok c5 n x hm).2 m hmm)⟩⟩
 have hle:Le { r with tm:=delAll ds r.tm } r:=⟨fun t v e=>by
  rw[hgt] at e
  split at e
  ·cases e
  ·exact e,fun _ _ e=>e,rfl,rfl⟩
 have hble:∀M,Le { r with tm:=delAll ds r.tm } (envOf { r with tm:=delAll ds r.tm } δs M):=fun M=>by
  have:=envOf_le (M:=[]) (L:=M) hg hfar (fun i hi=>by simp at hi)
  rwa [envOf_nil] at this
 have hrnn:n ∉ r.rn:=by rw[envOf_rt.2] at hrn0;exact hrn0
 have hp:Prot r (updO n cs (envOf { r with tm:=delAll ds r.tm } δs (δs.map fun _=>true))):=by
  have e:=envOf_rt (b:={ r with tm:=delAll ds r.tm }) (l:=δs) (M:=δs.map fun _=>true)
  refine ⟨e.1,e.2,fun t ht=>?_,fun n' hn'=>?_⟩
  ·have htd:t ∉ ds:=fun hx=>noneIn_ok c2 t hx ht
   show (envOf { r with tm:=delAll ds r.tm } δs (δs.map fun _=>true)).get t=_
   rw[envOf_get htd hg,hgt,if_neg htd]
  ·rw[updO_obj,if_neg (fun e=>hrnn (by rw[e];exact hn')),envOf_obj (farNs_ok c3 n' hn') hg];rfl
 have W1:RepW θ N w0 M0 S0 ι0 { r with tm:=delAll ds r.tm } ι S a { w with drawn:=w.drawn+1 }:=(W.forget hle).below ⟨rfl,rfl,rfl,Nat.le_refl _,fun _ _=>rfl⟩
 have hrep:Array.replicate ops.size false=⟨List.replicate ops.size false⟩:=by apply Array.ext';simp
 rw[hrep]
 have hno:∀j,(List.replicate ops.size false)[j]?≠some true:=fun j hj=>by
  rw[List.getElem?_replicate] at hj
  split at hj <;> cases hj
 refine phase1s (bb:=hideB Γ ops.toList { r with tm:=delAll ds r.tm } so) B hC ops (m:=m) bo% hlen hg hfar hso c7 c8 hstore (hideB_le _ _ _) (isNone_ok hnb) (fun i o ho hs=>by have:=apartL_ok hap i o ho hs;rwa [Nat.zero_add] at this) (fun i o ho hsel t ht n' hn' e=>?_) (fun X hX hd=>?_) h3 (by simpa using c6) h1
  (fun r' ι' S' a' w' e1 e2 e3=>hQ _ _ _ _ _ e1 e2 (hp.trans e3)) ops.size (cntF_rep _) (by simp) (fun j o _ hj=>absurd hj (hno j)) (fun j _=>hno j) (W1.forget ?_)
 ·have:=farNs_ok hcf n' hn'
  exact this (by rw[e];exact unselD_mem ho hsel ht)
 ·refine iterM_sub (fun i d e1 e2 s hs=>?_) (fun s hs=>hd s (by have:=(maskOf_get _ _ _ _ hs).1;rwa [Nat.zero_add] at this))
  rw[List.getElem?_map] at e1
  obtain ⟨o2,e3,rfl⟩:=Option.map_eq_some_iff.1 e1
  exact hX i o2 e3 e2 s (by have:=(maskOf_get _ _ _ _ hs).1;rwa [Nat.zero_add] at this)
 ·unfold EX
  rw[if_neg (hno m)]
  have:Le (envOf { r with tm:=delAll ds r.tm } δs (List.replicate ops.size false)) (envOf { r with tm:=delAll ds r.tm } δs []):=envOf_le hg hfar fun i hi=>absurd hi (hno i)
  rw[envOf_nil] at this
  exact this
end Go.VM
namespace Go.VM
open Go.RowKit
variable {P:Program} {Γ:Ctx} {θ:Nat→Value} {N:Nat} {w0:World} {M0 S0:Nat→Prop} {ι0:Nat→Value} {r r2 b bb:Env} {ι:Nat→Value} {S:Nat→Prop} {a:Act} {w:World} {R:Type} {cal:Cal Γ} {k:Env→Option R} {q:R} {o:Oper} {ds:List Nat}
 {Q:Exit→Act→World→Prop} {K':Act→World→Prop} {n:Nat} {cs:List CV}
theorem backCells_one {old:List CV}:∀ {t:Ty} {x:t.den} {m:Nat} {k:List CV→Option R},backCells old t x m k=some q→∃cs,k cs=some q∧∀(R2:Type) (k2:List CV→Option R2),backCells old t x m k2=k2 cs
 | .pair a b,x,m,k,h=>by
  simp only[backCells] at h
  obtain ⟨p,h,e1⟩:=backCells_one h
  obtain ⟨p',h,e2⟩:=backCells_one h
  exact ⟨p++p',h,fun R2 k2=>by simp only[backCells];rw[e1,e2]⟩
 | .opq,n,m,k,h=>by
  simp only[backCells] at h
  split at h
  ·rename_i c rest hd
   obtain ⟨hc,h⟩:=bif_some h
   obtain ⟨hn,h⟩:=grd_some h
   exact ⟨[c],h,fun R2 k2=>by simp only[backCells,hd,hc,hn,grd,cond_true]⟩
  ·cases h
 | .lst e,x,m,k,h=>by
  simp only[backCells] at h
  obtain ⟨hc,h⟩:=bifn_some h
  exact ⟨_,h,fun R2 k2=>by simp only[backCells,hc,cond_false]⟩
 | .adr e,x,m,k,h=>by
  simp only[backCells] at h
  obtain ⟨hc,h⟩:=bifn_some h
  exact ⟨_,h,fun R2 k2=>by simp only[backCells,hc,cond_false]⟩
 | .rd e,x,m,k,h=>by
  simp only[backCells] at h
  obtain ⟨hc,h⟩:=bifn_some h
  exact ⟨_,h,fun R2 k2=>by simp only[backCells,hc,cond_false]⟩
 | .unit,x,m,k,h=>⟨_,h,fun _ _=>rfl⟩
 | .int _,x,m,k,h=>⟨_,h,fun _ _=>rfl⟩
 | .bool,x,m,k,h=>⟨_,h,fun _ _=>rfl⟩
 | .str,x,m,k,h=>⟨_,h,fun _ _=>rfl⟩
 | .err,x,m,k,h=>⟨_,h,fun _ _=>rfl⟩
theorem tokCells_le {ob ob2:Nat→Option Ob} (h:∀n o,ob n=some o→ob2 n=some o):∀ {t:Ty} {cs:List CV} {m:Nat} {p:t.den×List CV},tokCells ob t cs m=some p→tokCells ob2 t cs m=some p
 | .pair a b,cs,m,p,hx=>by
  simp only[tokCells] at hx ⊢
  split at hx
  ·cases hx
  ·rename_i p1 h1
   rw[tokCells_le h h1]
   simp only
   split at hx
   ·cases hx
   ·rename_i p2 h2
    rw[tokCells_le h h2];exact hx
 | .opq,cs,m,p,hx=>hx
 | .lst e,cs,m,p,hx=>by
  simp only[tokCells] at hx ⊢
  obtain ⟨hc,hx⟩:=bifn_some hx
  rw[hc]
  exact ofCells_le h hx
 | .rd e,cs,m,p,hx=>by
  simp only[tokCells] at hx ⊢
  obtain ⟨hc,hx⟩:=bifn_some hx
  rw[hc]
  exact ofCells_le h hx
 | .adr e,cs,m,p,hx=>by
  simp only[tokCells] at hx ⊢
  obtain ⟨hc,hx⟩:=bifn_some hx
  rw[hc]
  exact ofCells_le h hx
 | .unit,cs,m,p,hx=>ofCells_le (t:=.unit) h hx
 | .err,cs,m,p,hx=>ofCells_le (t:=.err) h hx
 | .int k,cs,m,p,hx=>ofCells_le (t:=.int k) h hx
 | .bool,cs,m,p,hx=>ofCells_le (t:=.bool) h hx
 | .str,cs,m,p,hx=>ofCells_le (t:=.str) h hx
theorem argBox_le {ob ob2 ob' ob2':Nat→Option Ob} (h:∀n o,ob n=some o→ob2 n=some o) (h':∀n o,ob' n=some o→ob2' n=some o) {t:Ty} {v:SV} {x:t.den} (hx:argBox ob ob' t v=some x):argBox ob2 ob2' t v=some x:=by
 unfold argBox at hx ⊢
 split at hx
 ·rename_i n _
  split at hx
  ·rename_i cs hcs
   rw[h _ _ hcs]
   simp only
   split at hx
   ·rename_i y hy
    rw[tokCells_le h' hy];exact hx
   ·cases hx
  ·cases hx
 ·cases hx
theorem argsIn_le1 {ob ob2 ob' ob2':Nat→Option Ob} (h:∀n o,ob n=some o→ob2 n=some o) (h':∀n o,ob' n=some o→ob2' n=some o):∀ {ps:List (Ty×Nat)} {vs:List SV} {x:(prodTy (ps.map pTy)).den},(∀p,p∈ps→p.2≤1)→argsIn ob ob' ps vs=some x→argsIn ob2 ob2' ps vs=some x
 | [],[],x,_,hx=>hx
 | [],_ :: _,x,_,hx=>by cases hx
 | _ :: _,[],x,_,hx=>by cases hx
 | (t,0) :: ps,v :: vs,x,hm,hx=>by
  simp only[argsIn] at hx ⊢
  split at hx
  ·rename_i y hy
   split at hx
   ·rename_i ys hys
    have hy':argIn ob2 ob2' (t,0) v=some y:=argVal_le (t:=t) h' hy
    rw[hy']
    simp only[argsIn_le1 h h' (fun p hp=>hm p (by simp[hp])) hys]
    exact hx
   ·cases hx
  ·cases hx
 | (t,1) :: ps,v :: vs,x,hm,hx=>by
  simp only[argsIn] at hx ⊢
  split at hx
  ·rename_i y hy
   split at hx
   ·rename_i ys hys
    have hy':argIn ob2 ob2' (t,1) v=some y:=argBox_le (t:=t) h h' hy
    rw[hy']
    simp only[argsIn_le1 h h' (fun p hp=>hm p (by simp[hp])) hys]
    exact hx
   ·cases hx
  ·cases hx
 | (t,n+2) :: ps,v :: vs,x,hm,_=>by have:=hm (t,n+2) (by simp);simp only at this;omega
theorem ioNames_empty:∀ {ps:List (Ty×Nat)} {vs:List SV},(∀p,p∈ps→p.2≤1)→ioNames ps vs=some []→ioTys ps=[]
 | [],[],_,_=>rfl
 | [],_ :: _,_,h=>by cases h
 | (t,0) :: ps,[],_,h=>by cases h
 | (t,0) :: ps,v :: vs,hm,h=>ioNames_empty (ps:=ps) (vs:=vs) (fun p hp=>hm p (by simp[hp])) h
 | (t,1) :: ps,[],_,h=>by cases h
 | (t,1) :: ps,v :: vs,_,h=>by
  exfalso
  have h:ioBox v (ioNames ps vs)=some []:=h
  unfold ioBox at h
  split at h
  ·split at h
   ·obtain ⟨_,h⟩:=bifn_some h;cases h
   ·cases h
  ·cases h
 | (t,n+2) :: ps,_,hm,_=>by have:=hm (t,n+2) (by simp);simp only at this;omega
theorem back_io:∀ {ps:List (Ty×Nat)} {vs:List SV} {x:(prodTy (ioTys ps)).den},(∀p,p∈ps→p.2≤1)→ioNames ps vs=some [n]→r.back ps vs x k=some q →
  ∃cs old,r.obj n=some (.box old)∧n ∉ r.rn∧k (updO n cs r)=some q∧∀(R2:Type) (r2:Env) (k2:Env→Option R2),Le r r2→r2.back ps vs x k2=k2 (updO n cs r2)
 | [],[],x,_,h,_=>by cases h
 | [],_ :: _,x,_,h,_=>by cases h
 | (t,0) :: ps,[],x,_,h,_=>by cases h
 | (t,0) :: ps,v :: vs,x,hm,hn,h=>back_io (ps:=ps) (vs:=vs) (x:=x) (fun p hp=>hm p (by simp[hp])) hn h
 | (t,1) :: ps,[],x,_,h,_=>by cases h
 | (t,1) :: ps,v :: vs,x,hm,hn,h=>by
  have hn2:ioBox v (ioNames ps vs)=some [n]:=hn
  clear hn
  unfold ioBox at hn2
  split at hn2
  ·rename_i n'
   split at hn2
   ·rename_i l hl
    obtain ⟨_,hn2⟩:=bifn_some hn2
    have e:=Option.some.inj hn2
    have e1:=(List.cons.inj e).1
    have e2:=(List.cons.inj e).2
    subst e1;subst e2
    have hio:=ioNames_empty (fun p hp=>hm p (by simp[hp])) hl
    replace h:=(back_one (r:=r) (k:=k) (v:=.t (.one (.ref n' 0))) (vs:=vs) (t:=t) x).symm.trans h
    simp only at h
    split at h
    ·rename_i old hold
     obtain ⟨cs,h,e⟩:=backCells_one h
     obtain ⟨hf,h⟩:=bif_some h
     have hf':=hf
     simp only[Bool.not_eq_true',mem_false] at hf'
     obtain ⟨h1,h2⟩:=back_nil hio h
     refine ⟨cs,old,hold,hf',h1,fun R2 r2 k2 hl=>?_⟩
     refine (back_one (r:=r2) (k:=k2) (v:=.t (.one (.ref n' 0))) (vs:=vs) (t:=t) x).trans ?_
     simp only[hl.ob _ _ hold]
     rw[e]
     have hf2:(!mem n' r2.rn)=true:=by rw[hl.rn];exact hf
     simp only[Env.upd,hf2,cond_true]
     exact h2 R2 _ _
    ·cases h
   ·cases hn2
  ·cases hn2
 | (t,m+2) :: ps,_,x,hm,_,_=>by have:=hm (t,m+2) (by simp);simp only at this;omega
theorem io_res {c:Call} {g:Nat} {vs:List SV} (ho:o.op=.call c) (hc:c.callee=.value (.func g)) (hm:∀p,p∈(Γ.ent g).sg.ps→p.2≤1) (hv:evArgs Γ r c.args.toList=some vs) (hn:ioNames (Γ.ent g).sg.ps vs=some [n]) (hvn:valNames (Γ.ent g).sg.ps vs=[])
 (hho:look Γ.ho g=none)
  (h:step Γ N cal r o k=some q):∃cs v obs old,r.obj n=some (.box old)∧n ∉ r.rn∧k (addD ⟨o.dst,v,obs⟩ (updO n cs r))=some q ∧
   ∀(R2:Type) (r2:Env) (k2:Env→Option R2),Le r r2→(∀m,m∈keys obs→Fr (updO n cs r2) m)→step Γ N cal r2 o k2=k2 (addD ⟨o.dst,v,obs⟩ (updO n cs r2)):=by
 have key:∀ {ob':Nat→Option Ob},r.callW Γ N cal o.dst g ob' vs k=some q→(∀(R2:Type) (r2:Env) (k2:Env→Option R2),Le r r2→∃ob2:Nat→Option Ob,(∀n x,ob' n=some x→ob2 n=some x)∧step Γ N cal r2 o k2=r2.callW Γ N cal o.dst g ob2 vs k2) →
   ∃cs v obs old,r.obj n=some (.box old)∧n ∉ r.rn∧k (addD ⟨o.dst,v,obs⟩ (updO n cs r))=some q ∧
   ∀(R2:Type) (r2:Env) (k2:Env→Option R2),Le r r2→(∀m,m∈keys obs→Fr (updO n cs r2) m)→step Γ N cal r2 o k2=k2 (addD ⟨o.dst,v,obs⟩ (updO n cs r2)):=by
  intro ob' h he
  unfold Env.callW at h
  split at h
  ·cases h
  ·rename_i x hx
   obtain ⟨y,hy,h⟩:=Option.bind_eq_some_iff.1 h
   obtain ⟨hb,h⟩:=bif_some h
   obtain ⟨cs,old,b1,b2,h,b3⟩:=back_io hm hn h
   obtain ⟨obs,g1,g2,g3⟩:=news_res h
   refine ⟨cs,_,obs,old,b1,b2,g1,fun R2 r2 k2 hl hf=>?_⟩
   rw[←g3 R2 (updO n cs r2) k2 (updO_mono hl) fun m hm=>hf m ((g2 m).2 hm)]
   obtain ⟨ob2,e1,e2⟩:=he R2 r2 k2 hl
   rw[e2]
   have hx2:argsIn r2.obj ob2 (Γ.ent g).sg.ps vs=some x:=argsIn_le1 hl.ob e1 hm hx
   simp only[Env.callW,hx2,hy,Option.bind_some,hb,cond_true]
   exact b3 R2 r2 _ hl
 simp only[step,ho,stepCall,hc,hho,Env.call] at h
 obtain ⟨hok,h⟩:=bifn_some h
 rw[hv] at h
 simp only at h
 cases hs:(shares (Γ.ent g).sg.rs||ioShares (Γ.ent g).sg.ps) with
 | false =>
  rw[hs] at h
  simp only[cond_false,hn] at h
  refine key h fun R2 r2 k2 hl=>⟨without [n] r2.obj,fun m x hx=>?_,?_⟩
  ·unfold without at hx ⊢
   cases hm2:mem m [n] with
   | true=>rw[hm2] at hx;cases hx
   | false=>rw[hm2] at hx;exact hl.ob m x hx
  ·simp only[step,ho,stepCall,hc,hho,Env.call,hok,hl.args hv,hs,cond_false,hn]
 | true =>
  rw[hs] at h
  simp only[cond_true,hvn,freezeAll_nil,hv,hn] at h
  refine key h fun R2 r2 k2 hl=>⟨fun _=>none,fun m x hx=>hx,?_⟩
  simp only[step,ho,stepCall,hc,hho,Env.call,hok,hl.args hv,hs,cond_true,cond_false,hn,hvn,freezeAll_nil]
structure FrzSpec (Γ:Ctx) (N:Nat) (r:Env) (o:Oper) (δ:Dl):Prop where
 out:∃(t len:Nat) (parts:Array (Nat×Operand)) (d:Nat) (e:Ty) (vs:List (Nat×SV)) (xs:List e.den),o.op=.buildSlice t len parts∧o.guard=none∧o.dst=some d∧lstTy (Γ.ty t)=some e∧evParts Γ r parts.toList=some vs∧okElem e=true ∧
  pnames vs=[]∧elems e 0 vs=some xs∧(Nat.beq vs.length len&&Nat.ble (len*e.size) 16777216)=true∧nm d 1<parBase∧nm d 1 ∉ r.rn∧d<N∧d ∉ r.rt∧δ=⟨some d,.c (.imm e xs),[]⟩
theorem frzAt_spec {k:Dl→Option R} (h:frzAt Γ N r o k=some q):∃δ,k δ=some q∧δ.d=o.dst∧FrzSpec Γ N r o δ:=by
 unfold frzAt at h
 split at h
 ·rename_i t len parts d ho hg hd
  split at h
  ·rename_i e vs h1 h2
   obtain ⟨hb,h⟩:=bif_some h
   simp only[Bool.and_eq_true] at hb
   split at h
   ·rename_i xs hxs
    obtain ⟨hc,h⟩:=bif_some h
    rw[Bool.and_eq_true] at hc
    obtain ⟨hc1,hc2⟩:=hc
    simp only[Bool.and_eq_true,Nat.blt_eq,Bool.not_eq_true',mem_false] at hc2
    obtain ⟨hp,h⟩:=bif_some h
    simp only[Bool.and_eq_true,Nat.blt_eq,Bool.not_eq_true',mem_false] at hp
    exact ⟨_,h,hd.symm,⟨t,len,parts,d,e,vs,xs,ho,hg,hd,h1,h2,hb.1,noNames_nil hb.2,hxs,hc1,hc2.1,hc2.2,hp.1,hp.2,rfl⟩⟩
   ·cases h
  ·cases h
 ·cases h
theorem frz_ok (B:Base P Γ θ w0 M0 S0) (hC:∀g,FnOk P Γ g (Γ.ent g).sg (cal g)) (ops:Array Oper) {δ:Dl} (hs:FrzSpec Γ N r o δ) (hl:Le r r2) (hf:∀t,o.dst=some t→Fr r2 (nm t 1)) (W:RepW θ N w0 M0 S0 ι0 r2 ι S a w)
  (hK:∀ι' S' a' w',RepW θ N w0 M0 S0 ι0 (addD δ r2) ι' S' a' w'→K' a' w'):if Region.wanted o (yielded ops a.tmps) then o.wp P a w K' Q∨(o.asks P a w∧LetsOut Q) else K' (a.put o.dst undef) w:=by
 obtain ⟨t,len,parts,d,e,vs,xs,ho,hg,hd,h1,h2,h3,h4,h5,h6,h7,h8,h9,h10,rfl⟩:=hs.out
 rw[if_pos (by simp[Region.wanted,hg])]
 have hfr:=hf d hd
 have e1:(r2.fresh (nm d 1) && !mem (nm d 1) r2.rn&&Nat.blt (nm d 1) parBase)=true:=by
  simp only[Env.fresh,Bool.and_eq_true,hl.rn]
  exact ⟨⟨⟨hfr.1,hfr.2⟩,by simpa [mem_false] using h8⟩,by simpa using h7⟩
 have e2:(Nat.blt d N && !mem d r2.rt)=true:=by
  rw[hl.rt];simp only[Bool.and_eq_true];exact ⟨by simpa using h9,by simpa [mem_false] using h10⟩
 have hstep:step Γ N cal r2 o (fun r=>some r)=some (addD ⟨some d,.c (.sl (nm d 1)),[(nm d 1,.row e xs)]⟩ r2):=by
  simp only[step,ho,h1,hl.parts h2,h3,cond_true,h4,freezeAll_nil,h5,h6,Env.new,hd,Option.getD_some,e1,Env.put,e2]
  rfl
 refine .inl (step_ok (k:=fun r=>some r) (q:=addD ⟨some d,.c (.sl (nm d 1)),[(nm d 1,.row e xs)]⟩ r2) B hC W hstep fun r' ι' S' a' w' h' W' _=>?_)
 cases h'
 obtain ⟨S2,W2⟩:=frz_new hfr (by rw[hl.rt];exact h10) (by rw[hl.rn];exact h8) W'
 exact hK ι' S2 a' w' W2
def cont (c:List CV):List (Option (List CV))→List Bool→List CV
 | u :: us,true :: xs=>cont (u.getD c) us xs
 | _ :: us,false :: xs=>cont c us xs
 | [],_=>c
 | _ :: _,[]=>c
theorem cont_congr:∀ {us:List (Option (List CV))} {X Y:List Bool} {c:List CV},(∀(i:Nat) (cs:List CV),us[i]? = some (some cs)→(X[i]? = some true↔Y[i]? = some true))→cont c us X=cont c us Y
 | [],X,Y,c,_=>by cases X <;> cases Y <;> rfl
 | u :: us,[],[],c,_=>rfl
 | u :: us,[],y :: Y,c,h=>by
  have ih:cont c us []=cont c us Y:=cont_congr fun i cs hi=>by
   have:=h (i+1) cs (by simpa using hi);simpa using this
  have e0:cont c us []=c:=by cases us <;> rfl
  have hy:y=true→u=none:=fun e=>by
   subst e
   cases u with
   | none=>rfl
   | some cs=>have:=(h 0 cs rfl).2 rfl;simp at this
  cases y with
  | true =>
   rw[hy rfl]
   show c=cont c us Y
   rw[←ih,e0]
  | false =>
   show c=cont c us Y
   rw[←ih,e0]
 | u :: us,x :: X,[],c,h=>by
  have ih:cont c us X=cont c us []:=cont_congr fun i cs hi=>by
   have:=h (i+1) cs (by simpa using hi);simpa using this
  have e0:cont c us []=c:=by cases us <;> rfl
  have hx:x=true→u=none:=fun e=>by
   subst e
   cases u with
   | none=>rfl
   | some cs=>have:=(h 0 cs rfl).1 rfl;simp at this
  cases x with
  | true =>
   rw[hx rfl]
   show cont c us X=c
   rw[ih,e0]
  | false =>
   show cont c us X=c
   rw[ih,e0]
 | u :: us,x :: X,y :: Y,c,h=>by
  have ih:∀c,cont c us X=cont c us Y:=fun c=>cont_congr fun i cs hi=>by
   have:=h (i+1) cs (by simpa using hi);simpa using this
  cases u with
  | none=>cases x <;> cases y <;> exact ih c
  | some cs =>
   have:=h 0 cs rfl
   cases x <;> cases y
   ·exact ih c
   ·simp at this
   ·simp at this
   ·exact ih _
theorem cont_set:∀ {us:List (Option (List CV))} {X:List Bool} {i:Nat} {c cs:List CV},us[i]? = some (some cs)→i<X.length→(∀(j:Nat) (cs':List CV),i<j→us[j]? = some (some cs')→X[j]?≠some true)→cont c us (X.set i true)=cs
 | [],X,i,c,cs,h,_,_=>by simp at h
 | u :: us,[],i,c,cs,_,h,_=>by simp at h
 | u :: us,x :: X,0,c,cs,h,_,hj=>by
  cases h
  show cont cs us X=cs
  have:cont cs us X=cont cs us []:=cont_congr fun i cs' hi=>by
   have:=hj (i+1) cs' bo% (by simpa using hi)
   constructor
   ·intro h;exact absurd (by simpa using h) this
   ·intro h;simp at h
  rw[this];cases us <;> rfl
 | u :: us,x :: X,i+1,c,cs,h,hi,hj=>by
  have ih:∀c,cont c us (X.set i true)=cs:=fun c=>cont_set (by simpa using h) (by simpa using hi) fun j cs' hij hu=>by
   have:=hj (j+1) cs' bo% (by simpa using hu);simpa using this
  cases x with
  | true=>exact ih _
  | false=>exact ih _
theorem cont_snoc:∀ {us:List (Option (List CV))} {u:Option (List CV)} {c:List CV},cont c (us++[u]) (List.replicate (us.length+1) true)=u.getD (cont c us (List.replicate us.length true))
 | [],u,c=>rfl
 | v :: us,u,c=>by
  show cont (v.getD c) (us++[u]) (List.replicate (us.length+1) true)=u.getD (cont (v.getD c) us (List.replicate us.length true))
  exact cont_snoc
theorem del_del {α:Type} (n:Nat):∀l:List (Nat×α),(del n (del n l)).length=(del n l).length
 | []=>rfl
 | (m,x) :: l=>by
  simp only[del]
  cases hb:Nat.beq m n with
  | true=>exact del_del n l
  | false=>simp only[cond_false,del,hb,List.length_cons,del_del n l]
theorem dlOf_io {v:SV} {obs:List (Nat×Ob)} {c:List CV}:∀x:Env,addD (dlOf (updO n c r) o (addD ⟨o.dst,v,obs⟩ (updO n cs (updO n c r)))) x=addD ⟨o.dst,v,obs⟩ x∧(dlOf (updO n c r) o (addD ⟨o.dst,v,obs⟩ (updO n cs (updO n c r)))).ob=obs∧(dlOf (updO n c r) o (addD ⟨o.dst,v,obs⟩ (updO n cs (updO n c r)))).d=o.dst:=by
 have e1:(dlOf (updO n c r) o (addD ⟨o.dst,v,obs⟩ (updO n cs (updO n c r)))).ob=obs:=by
  show (obs++((n,Ob.box cs) :: del n ((n,Ob.box c) :: del n r.ob))).take ((obs++((n,Ob.box cs) :: del n ((n,Ob.box c) :: del n r.ob))).length-((n,Ob.box c) :: del n r.ob).length)=obs
  have:((n,Ob.box cs) :: del n ((n,Ob.box c) :: del n r.ob)).length=((n,Ob.box c) :: del n r.ob).length:=by
   simp only[List.length_cons,del,Nat.beq_refl,cond_true,del_del]
  rw[List.length_append,this,Nat.add_sub_cancel,List.take_left']
  rfl
 intro x
 refine ⟨?_,e1,rfl⟩
 cases hd:o.dst with
 | none =>
  rw[hd] at e1
  have hdd:(dlOf (updO n c r) o (addD ⟨none,v,obs⟩ (updO n cs (updO n c r)))).d=none:=hd
  generalize dlOf (updO n c r) o (addD ⟨none,v,obs⟩ (updO n cs (updO n c r)))=D at e1 hdd ⊢
  obtain ⟨d',v',ob'⟩:=D
  cases e1;cases hdd
  rfl
 | some t =>
  have:(dlOf (updO n c r) o (addD ⟨some t,v,obs⟩ (updO n cs (updO n c r))))=⟨some t,v,obs⟩:=by
   rw[hd] at e1
   have hv:(dlOf (updO n c r) o (addD ⟨some t,v,obs⟩ (updO n cs (updO n c r)))).v=v:=by
    simp only[dlOf,hd,addD_get,if_pos]
    rfl
   have hdd:(dlOf (updO n c r) o (addD ⟨some t,v,obs⟩ (updO n cs (updO n c r)))).d=some t:=hd
   generalize dlOf (updO n c r) o (addD ⟨some t,v,obs⟩ (updO n cs (updO n c r)))=D at e1 hv hdd
   obtain ⟨d',v',ob'⟩:=D
   cases e1;cases hv;cases hdd
   rfl
  rw[this]
inductive Free3 (Γ:Ctx) (N:Nat) (cal:Cal Γ) (ops:List Oper) (bb:Env) (n:Nat) (δs:List Dl) (cur:List CV) (i:Nat) (o:Oper) (δ:Dl) (u:Option (List CV)):Prop
 | plain:u=none→GSpec Γ N cal ops (envOf bb δs (maskOf o 0 i)) o δ→Free3 Γ N cal ops bb n δs cur i o δ u
 | frz:u=none→FrzSpec Γ N (envOf bb δs (maskOf o 0 i)) o δ→Free3 Γ N cal ops bb n δs cur i o δ u
 | io (cs:List CV):u=some cs→o.guard=none→cnames cs=[]→(∀(R2:Type) (r2:Env) (k2:Env→Option R2),Le (updO n cur (envOf bb δs (maskOf o 0 i))) r2→(∀m,m∈keys δ.ob→Fr (updO n cs r2) m)→step Γ N cal r2 o k2=k2 (addD δ (updO n cs r2))) →
   Free3 Γ N cal ops bb n δs cur i o δ u
structure F3 (Γ:Ctx) (N:Nat) (cal:Cal Γ) (ops:List Oper) (ds:List Nat) (bb:Env) (n:Nat) (δs:List Dl) (us:List (Option (List CV))) (c0:List CV) (i:Nat) (o:Oper) (δ:Dl) (u:Option (List CV)):Prop where
 d:δ.d=o.dst
 ok:DlOk ds δ
 big:bigDep o i=true
 spec:Free3 Γ N cal ops bb n δs (cont c0 us (List.replicate i true)) i o δ u
 chain:∀cs,u=some cs→∀(j:Nat) (cs':List CV),j<i→us[j]? = some (some cs')→∀X,Closed ops X→(∀s,depOn o s=true→X[s]? = some true)→X[j]? = some true
theorem cont_take:∀ {us us':List (Option (List CV))} {c:List CV},cont c (us++us') (List.replicate us.length true)=cont c us (List.replicate us.length true)
 | [],us',c=>by cases us' <;> rfl
 | u :: us,us',c=>cont_take (us:=us) (us':=us') (c:=u.getD c)
theorem drawGo3_spec {ops:List Oper} {c0:List CV} {bs:Nat→Env} (hn:NFar ds n):∀ {os:List Oper} {last:Option Nat} {acc:List Dl} {us:List (Option (List CV))} {k:List Dl→List (Option (List CV))→List CV→Option R},
  drawGo3 Γ N cal ops ds bs n os last (cont c0 us (List.replicate us.length true)) acc us k=some q→us.length=acc.length→(∀(i:Nat) (o:Oper),os[i]? = some o→ops[acc.length+i]? = some o)→(∀(i:Nat) (o:Oper),os[i]? = some o→∀t,o.dst=some t→t∈ds) →
   (∀(j:Nat) (cs':List CV),us[j]? = some (some cs')→∃l,last=some l∧∀X,Closed ops X→X[l]? = some true→X[j]? = some true) →
  ∃δs vs,k (acc++δs) (us++vs) (cont c0 (us++vs) (List.replicate (us++vs).length true))=some q∧δs.length=os.length∧vs.length=os.length ∧
   ∀(i:Nat) (o:Oper),os[i]? = some o→∃δ u,δs[i]? = some δ∧vs[i]? = some u∧F3 Γ N cal ops ds (bs (acc.length+i)) n (acc++δs) (us++vs) c0 (acc.length+i) o δ u
 | [],last,acc,us,k,h,hl,ho,hds,hlast=>⟨[],[],by simpa [drawGo3] using h,rfl,rfl,fun i o h=>by simp at h⟩
 | o :: os,last,acc,us,k,h,hl,ho,hds,hlast=>by
  have hop:ops[acc.length]? = some o:=ho 0 o rfl
  have ho':∀δ:Dl,∀(i:Nat) (o:Oper),os[i]? = some o→ops[(acc++[δ]).length+i]? = some o:=fun δ i o' hi=>by
   have:=ho (i+1) o' (by simpa using hi)
   rwa [List.length_append,show acc.length + [δ].length+i=acc.length+(i+1) by simp;omega]
  have step1:∀ {δ:Dl} {u:Option (List CV)} {last':Option Nat},(∀(δs:List Dl) (vs:List (Option (List CV))),F3 Γ N cal ops ds (bs acc.length) n (acc++δ :: δs) (us++u :: vs) c0 acc.length o δ u) →
    (∀(j:Nat) (cs':List CV),(us++[u])[j]? = some (some cs')→∃l,last'=some l∧∀X,Closed ops X→X[l]? = some true→X[j]? = some true) →
    drawGo3 Γ N cal ops ds bs n os last' (u.getD (cont c0 us (List.replicate us.length true))) (acc++[δ]) (us++[u]) k=some q →
    ∃δs vs,k (acc++δs) (us++vs) (cont c0 (us++vs) (List.replicate (us++vs).length true))=some q∧δs.length=(o :: os).length∧vs.length=(o :: os).length ∧
     ∀(i:Nat) (o2:Oper),(o :: os)[i]? = some o2→∃δ u,δs[i]? = some δ∧vs[i]? = some u∧F3 Γ N cal ops ds (bs (acc.length+i)) n (acc++δs) (us++vs) c0 (acc.length+i) o2 δ u:=by
   intro δ u last' hF hlast' h
   have hc:cont c0 (us++[u]) (List.replicate (us++[u]).length true)=u.getD (cont c0 us (List.replicate us.length true)):=by
    rw[List.length_append];exact cont_snoc
   rw[←hc] at h
   obtain ⟨δs,vs,g1,g2,g3,g4⟩:=drawGo3_spec hn h (by simp[hl]) (ho' δ) (fun i o' hi=>hds (i+1) o' (by simpa using hi)) hlast'
   refine ⟨δ :: δs,u :: vs,by simpa using g1,by simp[g2],by simp[g3],fun i o2 ho2=>?_⟩
   cases i with
   | zero =>
    cases ho2
    exact ⟨δ,u,rfl,rfl,hF δs vs⟩
   | succ i =>
    obtain ⟨ε,u',e1,e2,e3⟩:=g4 i o2 (by simpa using ho2)
    refine ⟨ε,u',by simpa using e1,by simpa using e2,?_⟩
    have a1:acc++[δ]++δs=acc++δ :: δs:=by simp
    have a2:us++[u]++vs=us++u :: vs:=by simp
    rw[a1,a2,List.length_append] at e3
    rwa [show acc.length+(i+1)=acc.length + [δ].length+i by simp;omega]
  have hmask:∀(δ:Dl) (δs:List Dl),envOf (bs acc.length) (acc++δ :: δs) (maskOf o 0 acc.length)=envOf (bs acc.length) acc (maskOf o 0 acc.length):=fun δ δs=>envOf_prefix (by rw[maskOf_len];exact Nat.le_refl _)
  have hcur:∀(u:Option (List CV)) (vs:List (Option (List CV))),cont c0 (us++u :: vs) (List.replicate acc.length true)=cont c0 us (List.replicate us.length true):=fun u vs=>by rw[←hl];exact cont_take
  have hkeep:∀(j:Nat) (cs':List CV),(us++[none])[j]? = some (some cs')→∃l,last=some l∧∀X,Closed ops X→X[l]? = some true→X[j]? = some true:=fun j cs' hj=>by
   rw[List.getElem?_append] at hj
   split at hj
   ·exact hlast j cs' hj
   ·rw[List.getElem?_singleton] at hj
    split at hj <;> simp at hj
  unfold drawGo3 at h
  rcases wrap_not h with ⟨hio,h⟩ | ⟨_,h⟩
  ·obtain ⟨hc,h⟩:=bif_some h
   simp only[Bool.and_eq_true] at hc
   obtain ⟨⟨hbig,hdep⟩,hat⟩:=hc
   unfold isIo at hio
   split at hio
   ·cases hio
   rename_i hg
   split at hio
   rotate_left
   ·cases hio
   rename_i c hop2
   split at hio
   rotate_left
   ·cases hio
   rename_i g hcal
   simp only[Bool.and_eq_true,Option.isNone_iff_eq_none] at hio
   simp only[ioAt,hop2,hcal,Bool.and_eq_true,List.all_eq_true] at hat
   obtain ⟨hm,hat⟩:=hat
   split at hat
   rotate_left
   ·cases hat
   rename_i vs0 hvs
   simp only[Bool.and_eq_true,List.isEmpty_iff] at hat
   obtain ⟨hvn,hat⟩:=hat
   split at hat
   rotate_left
   ·cases hat
   rename_i n' hn'
   have hn':ioNames (Γ.ent g).sg.ps vs0=some [n]:=by rw[hn',Nat.eq_of_beq_eq_true hat]
   obtain ⟨cs,v,obs,old,_,_,h,hres⟩:=io_res hop2 hcal (fun p hp=>Nat.le_of_ble_eq_true (hm p hp)) hvs hn' hvn hio.2 h
   have hobn:(addD ⟨o.dst,v,obs⟩ (updO n cs (updO n (cont c0 us (List.replicate us.length true)) (envOf (bs acc.length) acc (maskOf o 0 acc.length))))).obj n=(look obs n).or (some (.box cs)):=by
    rw[addD_obj,updO_obj,if_pos rfl]
   simp only[hobn] at h
   obtain ⟨d1,d2,d3⟩:=dlOf_io (o:=o) (n:=n) (r:=envOf (bs acc.length) acc (maskOf o 0 acc.length)) (c:=cont c0 us (List.replicate us.length true)) (cs:=cs) (v:=v) (obs:=obs) (bs acc.length)
   have dd:∀x,addD (dlOf (updO n (cont c0 us (List.replicate us.length true)) (envOf (bs acc.length) acc (maskOf o 0 acc.length))) o (addD ⟨o.dst,v,obs⟩ (updO n cs (updO n (cont c0 us (List.replicate us.length true)) (envOf (bs acc.length) acc (maskOf o 0 acc.length)))))) x=addD ⟨o.dst,v,obs⟩ x:=fun x=>(dlOf_io x).1
   generalize dlOf (updO n (cont c0 us (List.replicate us.length true)) (envOf (bs acc.length) acc (maskOf o 0 acc.length))) o (addD ⟨o.dst,v,obs⟩ (updO n cs (updO n (cont c0 us (List.replicate us.length true)) (envOf (bs acc.length) acc (maskOf o 0 acc.length)))))=δ at h d1 d2 d3 dd
   split at h
   rotate_left
   ·cases h
   rename_i cs1 hcs1
   obtain ⟨hok,h⟩:=bif_some h
   simp only[Bool.and_eq_true,List.isEmpty_iff] at hok
   have hlk:look obs n=none→cs1=cs:=fun e=>by rw[e,Option.none_or] at hcs1;cases hcs1;rfl
   by_cases hlo:look obs n=none
   ·have:=hlk hlo
    subst this
    refine step1 (u:=some cs1) (last':=some acc.length) (fun δs vs=>⟨d3,okDl_ok hok.1,hbig,.io cs1 rfl hg hok.2 ?_,?_⟩) (fun j cs' hj=>⟨_,rfl,fun X hX hl1=>?_⟩) h
    ·rw[hmask,hcur]
     intro R2 r2 k2 hle hf
     rw[dd]
     exact hres R2 r2 k2 hle fun m hm=>hf m (by rw[d2];exact hm)
    ·intro cs2 _ j cs' hj huj X hX hd
     rw[List.getElem?_append_left bo%] at huj
     obtain ⟨l,hl1,hl2⟩:=hlast j cs' huj
     rw[hl1] at hdep
     exact hl2 X hX (hd l hdep)
    ·rw[List.getElem?_append] at hj
     split at hj
     ·obtain ⟨l,hl1',hl2⟩:=hlast j cs' hj
      rw[hl1'] at hdep
      exact hl2 X hX (hX _ o hop hl1 l hdep)
     ·rename_i hge
      rw[List.getElem?_singleton] at hj
      split at hj
      ·rename_i e0
       have:j=acc.length:=by omega
       subst this;exact hl1
      ·cases hj
   ·exfalso
    cases hq:look obs n with
    | none=>exact hlo hq
    | some x =>
     have hk:n∈keys δ.ob:=by rw[d2];exact keys_mem2 (look_mem2 hq)
     have:=(okDl_ok hok.1).k n hk
     exact hn (hds 0 o rfl _ (d3 ▸ this))
  ·rcases wrap_not h with ⟨_,h⟩ | ⟨_,h⟩
   ·obtain ⟨hbig,h⟩:=bif_some h
    obtain ⟨δ,h,hd,hs⟩:=frzAt_spec h
    obtain ⟨hok,h⟩:=bif_some h
    refine step1 (u:=none) (last':=last) (fun δs vs=>⟨hd,okDl_ok hok,hbig,.frz rfl ?_,fun cs e=>by cases e⟩) hkeep h
    rw[hmask];exact hs
   ·rw[litG_eq] at h
    obtain ⟨hc,h⟩:=bif_some h
    simp only[Bool.and_eq_true] at hc
    obtain ⟨⟨hm,hbig⟩,ha⟩:=hc
    obtain ⟨δ,h,hd,hs⟩:=gstep_spec hm ha h
    obtain ⟨hok,h⟩:=bif_some h
    refine step1 (u:=none) (last':=last) (fun δs vs=>⟨hd,okDl_ok hok,hbig,.plain rfl ?_,fun cs e=>by cases e⟩) hkeep h
    rw[hmask];exact hs
end Go.VM
namespace Go.VM
open Go.RowKit
variable {P:Program} {Γ:Ctx} {θ:Nat→Value} {N:Nat} {w0:World} {M0 S0:Nat→Prop} {ι0:Nat→Value} {r r2 b bb:Env} {ι:Nat→Value} {S:Nat→Prop} {a:Act} {w:World} {R:Type} {cal:Cal Γ} {k:Env→Option R} {q:R} {o:Oper} {ds:List Nat}
 {Q:Exit→Act→World→Prop} {K':Act→World→Prop} {n:Nat} {cs:List CV}
theorem updO_updO {c:List CV}:Le (updO n cs r) (updO n cs (updO n c r)) :=
 ⟨fun _ _ h=>h,fun m x e=>by
  rw[updO_obj] at e ⊢
  split at e
  ·rename_i hm;rw[if_pos hm];exact e
  ·rename_i hm;rw[if_neg hm,updO_obj,if_neg hm];exact e,rfl,rfl⟩
theorem cont_names {us:List (Option (List CV))} {X:List Bool} {c:List CV} (h0:cnames c=[]) (h:∀(i:Nat) (cs:List CV),us[i]? = some (some cs)→cnames cs=[]):cnames (cont c us X)=[]:=by
 induction us generalizing X c with
 | nil=>cases X <;> exact h0
 | cons u us ih =>
  cases X with
  | nil=>exact h0
  | cons x X =>
   have h':∀(i:Nat) (cs:List CV),us[i]? = some (some cs)→cnames cs=[]:=fun i cs hi=>h (i+1) cs (by simpa using hi)
   cases x with
   | false=>exact ih h0 h'
   | true =>
    refine ih ?_ h'
    cases u with
    | none=>exact h0
    | some cs=>exact h 0 cs rfl
def EX3 (b:Env) (δs:List Dl) (n:Nat) (us:List (Option (List CV))) (c0:List CV) (X:List Bool):Env:=updO n (cont c0 us X) (envOf b δs X)
theorem phase1i (B:Base P Γ θ w0 M0 S0) (hC:∀g,FnOk P Γ g (Γ.ent g).sg (cal g)) (ops:Array Oper) {m:Nat} (hm:m≤ops.size) {δs:List Dl} {us:List (Option (List CV))} {c0:List CV} (hlen:δs.length=m) (hlen2:us.length=m) (hg:Good ds δs) (hb:EFar ds (fun _=>False) b)
  (hbb:Le bb b) (hbn:bb.obj n=none) (hn:NFar ds n) (hc0:cnames c0=[])
  (hfree:∀(i:Nat) (o:Oper),(ops.toList.take m)[i]? = some o→∃δ u,δs[i]? = some δ∧us[i]? = some u∧F3 Γ N cal ops.toList ds bb n δs us c0 i o δ u) (hw:waits (closN ops.toList []) ops.size m (ops.toList.drop m)=true)
  (hk:execOps Γ N cal ops.toList (ops.toList.drop m) (updO n (cont c0 us (List.replicate m true)) (envOf b δs (δs.map fun _=>true))) k=some q) (hQ:ExO k q θ N w0 M0 S0 ι0 (updO n (cont c0 us (List.replicate m true)) (envOf b δs (δs.map fun _=>true))) Q):∀(fuel:Nat) {X:List Bool} {ι:Nat→Value} {S:Nat→Prop} {a:Act} {w:World},
  cntF X=fuel→X.length=ops.size→Closed ops.toList X→(∀j,m≤j→X[j]?≠some true)→RepW θ N w0 M0 S0 ι0 (EX3 b δs n us c0 X) ι S a w→wpAny P .any ops Q fuel ⟨X⟩ a w:=by
 have hnames:∀(i:Nat) (cs:List CV),us[i]? = some (some cs)→cnames cs=[]:=fun i cs hi=>by
  have hlt:i<m:=by have:=(List.getElem?_eq_some_iff.1 hi).1;omega
  obtain ⟨oi,hoi⟩:∃o,(ops.toList.take m)[i]? = some o:=⟨_,List.getElem?_eq_getElem (by simp;omega)⟩
  obtain ⟨δ,u,_,h2,f⟩:=hfree i oi hoi
  rw[hi] at h2
  cases h2
  cases f.spec with
  | plain e _=>cases e
  | frz e _=>cases e
  | io cs' e _ hcn _=>cases e;exact hcn
 have last:∀ {fuel:Nat} {X:List Bool} {ι:Nat→Value} {S:Nat→Prop} {a:Act} {w:World},cntF X=fuel→X.length=ops.size→Closed ops.toList X→(∀j,m≤j→X[j]?≠some true)→RepW θ N w0 M0 S0 ι0 (EX3 b δs n us c0 X) ι S a w →
   (∀i,i<m→X[i]? = some true)→wpAny P .any ops Q fuel ⟨X⟩ a w:=fun {fuel X ι S a w} hcnt hX hc h2 W h1=>by
  have hle:Le (envOf b δs (δs.map fun _=>true)) (envOf b δs X):=envOf_le hg hb fun i hi=>h1 i (by have:=(List.getElem?_eq_some_iff.1 hi).1;simp at this;omega)
  unfold EX3 at W
  have hcc:cont c0 us X=cont c0 us (List.replicate m true):=cont_congr fun i cs hi=>by
   have hlt:i<m:=by have:=(List.getElem?_eq_some_iff.1 hi).1;omega
   rw[h1 i hlt,List.getElem?_replicate,if_pos hlt]
  rw[hcc] at W
  have:=phase2 B hC ops (ops.toList.drop m) (X:=X) (j:=m) rfl hX h1 h2 hm hw hc hk (W.forget (updO_mono hle)) hQ
  have hd:=cntF_drop h1 h2
  rwa [show (ops.toList.drop m).length=fuel by simp;omega] at this
 intro fuel
 induction fuel with
 | zero =>
  intro X ι S a w hcnt hX hc h2 W
  have hall:=cntF_zero hcnt
  exact last hcnt hX hc h2 W fun i hi=>hall i bo%
 | succ fuel ih =>
  intro X ι S a w hcnt hX hc h2 W
  by_cases h1:∀i,i<m→X[i]? = some true
  ·exact last hcnt hX hc h2 W h1
  ·have ⟨i0,hi0,hx0⟩:∃i,i<m∧X[i]?≠some true:=Classical.byContradiction fun hn=>h1 fun i hi=>Classical.byContradiction fun h=>hn ⟨i,hi,h⟩
   have hx0':X[i0]? = some false:=by
    have hlt:i0<X.length:=by omega
    cases hq:X[i0]? with
    | none=>rw[List.getElem?_eq_getElem hlt] at hq;cases hq
    | some x=>cases x with
     | true=>exact absurd hq hx0
     | false=>rfl
   obtain ⟨j,hji,hxj,hbelow⟩:=least hx0'
   have hjm:j<m:=by omega
   have hrj:j∈Region.ready .any ops ⟨X⟩:=by
    obtain ⟨oj,hoj⟩:∃o,(ops.toList.take m)[j]? = some o:=⟨_,List.getElem?_eq_getElem (by simp;omega)⟩
    have hoj':ops.toList[j]? = some oj:=by
     rw[List.getElem?_take,if_pos hjm] at hoj;exact hoj
    obtain ⟨δj,_,_,_,fj⟩:=hfree j oj hoj
    exact ready_mk hX hxj hoj' fj.big hbelow
   refine ⟨fun h0=>(by rw[h0] at hrj;cases hrj),fun i hi=>?_⟩
   obtain ⟨g1,o,g2,g3⟩:=ready_of hi hX
   have hset:cntF (X.set i true)=fuel:=by have:=cntF_set g1;omega
   rcases Nat.lt_or_ge i m with him | him
   ·have hset2:∀j,m≤j→(X.set i true)[j]?≠some true:=fun s hs hx=>by
     rcases of_set hx with rfl | hx
     ·omega
     ·exact h2 s hs hx
    have ho:(ops.toList.take m)[i]? = some o:=by rw[List.getElem?_take,if_pos him];exact g2
    obtain ⟨δ,u,d1,u1,f⟩:=hfree i o ho
    have hmask:MLe (maskOf o 0 i) X:=fun s hs=>by
     have:=(maskOf_get _ _ _ _ hs).1
     rw[Nat.zero_add] at this
     exact g3 s this
    have hown:=(hg.at d1).1.k
    have hlk:look δ.ob n=none:=by
     cases hq:look δ.ob n with
     | none=>rfl
     | some x=>exact absurd ((hg.at d1).2 _ (hown n (keys_mem2 (look_mem2 hq)))) hn
    have hcn:=cont_names (X:=X) hc0 hnames
    have hbase:Le (envOf bb δs (maskOf o 0 i)) (envOf b δs X):=(envOf_base hbb).trans (envOf_le hg hb hmask)
    have hbase0:(envOf bb δs (maskOf o 0 i)).obj n=none:=by rw[envOf_obj hn hg];exact hbn
    have hleX:Le (envOf bb δs (maskOf o 0 i)) (EX3 b δs n us c0 X):=hbase.upd hbase0
    have hfr0:∀n',n'∈keys δ.ob→Fr (EX3 b δs n us c0 X) n':=fun n' hn'=>by
     refine fr_upd (envOf_fresh hg hb d1 g1 n' hn') (fun e=>?_) (by rw[hcn];simp)
     subst e;exact hn ((hg.at d1).2 _ (hown n hn'))
    unfold wpOp
    rw[show ops[i]? = some o by simpa using g2]
    have hnone:u=none→cont c0 us (X.set i true)=cont c0 us X:=fun hu=>cont_congr fun s cs hs=>by
     have hne:i≠s:=fun e=>by subst e;rw[u1,hu] at hs;cases hs
     rw[List.getElem?_set,if_neg hne]
    have hafter:∀ {ι' S' a' w'},u=none→RepW θ N w0 M0 S0 ι0 (addD δ (EX3 b δs n us c0 X)) ι' S' a' w'→RepW θ N w0 M0 S0 ι0 (EX3 b δs n us c0 (X.set i true)) ι' S' a' w':=fun hu W'=>by
     unfold EX3
     rw[hnone hu]
     exact W'.forget ((updO_mono (envOf_set hg d1 g1)).trans (updO_addD hlk))
    cases f.spec with
    | plain hu hsp =>
     refine free_ok B hC ops f.d hsp hleX hfr0 W fun ι' S' a' w' W'=>?_
     rw[setB_mk]
     exact ih (ι:=ι') (S:=S') hset (by simpa using hX) (hc.set g2 g3) hset2 (hafter hu W')
    | frz hu hsp =>
     refine frz_ok B hC ops hsp hleX (fun t ht=>?_) W fun ι' S' a' w' W'=>?_
     ·have htd:δ.d=some t:=by rw[f.d];exact ht
      have hds:=(hg.at d1).2 t htd
      have hfar:=(envOf_far (M:=X) hg hb).fr (n:=nm t 1) hds (fun ⟨j,ε,h3,h4,h5⟩=>by
       have:=hg.inj d1 h3 htd h5
       subst this
       rw[g1] at h4;cases h4) (by unfold nm;omega)
      refine fr_upd hfar (fun e=>?_) (by rw[hcn];simp)
      subst e
      refine hn ?_
      rw[show nm t 1 / 64=t by unfold nm;omega];exact hds
     ·rw[setB_mk]
      exact ih (ι:=ι') (S:=S') hset (by simpa using hX) (hc.set g2 g3) hset2 (hafter hu W')
    | io cs hu hg0 hcs hsp =>
     have hpre:cont c0 us (List.replicate i true)=cont c0 us X:=cont_congr fun s cs' hs=>by
      have hlt:s<m:=by have:=(List.getElem?_eq_some_iff.1 hs).1;omega
      rw[List.getElem?_replicate]
      by_cases hsi:s<i
      ·rw[if_pos hsi,f.chain cs hu s cs' hsi hs X hc g3]
      ·rw[if_neg hsi]
       constructor
       ·intro h;cases h
       ·intro hx
        exfalso
        by_cases he:s=i
        ·subst he;rw[g1] at hx;cases hx
        ·obtain ⟨os,hos⟩:∃o,(ops.toList.take m)[s]? = some o:=⟨_,List.getElem?_eq_getElem (by simp;omega)⟩
         obtain ⟨δ',u',_,us',f'⟩:=hfree s os hos
         rw[hs] at us'
         cases us'
         have hos':ops.toList[s]? = some os:=by rw[List.getElem?_take,if_pos hlt] at hos;exact hos
         have:=f'.chain cs' rfl i cs bo% (by rw[u1,hu]) X hc (hc s os hos' hx)
         rw[g1] at this;cases this
     have hnew:cont c0 us (X.set i true)=cs:=cont_set (by rw[u1,hu]) bo% fun s cs' hs1 hs2 hx=>by
      have hlt:s<m:=by have:=(List.getElem?_eq_some_iff.1 hs2).1;omega
      obtain ⟨os,hos⟩:∃o,(ops.toList.take m)[s]? = some o:=⟨_,List.getElem?_eq_getElem (by simp;omega)⟩
      obtain ⟨δ',u',_,us',f'⟩:=hfree s os hos
      rw[hs2] at us'
      cases us'
      have hos':ops.toList[s]? = some os:=by rw[List.getElem?_take,if_pos hlt] at hos;exact hos
      have:=f'.chain cs' rfl i cs hs1 (by rw[u1,hu]) X hc (hc s os hos' hx)
      rw[g1] at this;cases this
     have hle2:Le (updO n (cont c0 us (List.replicate i true)) (envOf bb δs (maskOf o 0 i))) (EX3 b δs n us c0 X):=by
      unfold EX3
      rw[hpre]
      exact updO_mono hbase
     have hst:=hsp Env (EX3 b δs n us c0 X) (fun r=>some r) hle2 (fun n' hn'=>fr_upd (hfr0 n' hn') (fun e=>by subst e;exact hn ((hg.at d1).2 _ (hown n hn'))) (by rw[hcs];simp))
     simp only
     rw[if_pos (by simp[Region.wanted,hg0])]
     refine .inl (step_ok (k:=fun r=>some r) (q:=addD δ (updO n cs (EX3 b δs n us c0 X))) B hC W hst fun r' ι' S' a' w' h' W' _=>?_)
     cases h'
     rw[setB_mk]
     refine ih (ι:=ι') (S:=S') hset (by simpa using hX) (hc.set g2 g3) hset2 (W'.forget ?_)
     unfold EX3
     rw[hnew]
     exact ((updO_mono (envOf_set hg d1 g1)).trans (updO_addD hlk)).trans (addD_mono δ updO_updO)
   ·exfalso
    have ho':(ops.toList.drop m)[i-m]? = some o:=by rw[List.getElem?_drop,show m+(i-m)=i by omega];exact g2
    have:=(waits_ok hc hw (i-m) o ho').2 g3 j bo%
    rw[hxj] at this;cases this
theorem drawIO_ok (B:Base P Γ θ w0 M0 S0) (hM:P.follows .mixedOrders=true) (hC:∀g,FnOk P Γ g (Γ.ent g).sg (cal g)) {ops:Array Oper} (h:drawIO Γ N cal ops.toList r k=some q)
  (W:RepW θ N w0 M0 S0 ι0 r ι S a w) (hQ:ExO k q θ N w0 M0 S0 ι0 r Q):wpAny P .any ops Q ops.size (Array.replicate ops.size false) a { w with drawn:=w.drawn+1 }:=by
 unfold drawIO at h
 simp only at h
 split at h
 rotate_left
 ·cases h
 rename_i n _
 split at h
 rotate_left
 ·cases h
 rename_i c0 hobn
 obtain ⟨hb,h⟩:=bif_some h
 rw[Bool.and_eq_true] at hb
 obtain ⟨hb,hb2⟩:=hb
 simp only[Bool.and_eq_true,Bool.not_eq_true',mem_false,List.isEmpty_iff] at hb2
 obtain ⟨hrn0,hc0⟩:=hb2
 simp only[Bool.and_eq_true] at hb
 obtain ⟨⟨⟨⟨⟨c1,c2⟩,c3⟩,c4⟩,c5⟩,c6⟩:=hb
 generalize hmm:frontN (closN ops.toList []) ops.toList.length 0 ops.toList=m at *
 generalize hds:dstL (ops.toList.take m)=ds at *
 have hm:m≤ops.size:=by rw[←hmm];simpa using frontN_le (closN ops.toList []) ops.toList.length ops.toList 0
 have hnf:NFar ds n:=(farO_ok c5 n _ (look_mem2 hobn)).1
 obtain ⟨δs,us,h1,h2,h2',h3⟩:=drawGo3_spec (us:=[]) (acc:=[]) (c0:=c0) hnf h rfl (fun i o hi=>by
  rw[List.length_nil,Nat.zero_add]
  rw[List.getElem?_take] at hi
  split at hi
  ·exact hi
  ·cases hi) (fun i o hi t ht=>hds ▸ mem_dstL (List.mem_of_getElem? hi) ht) (fun j cs' hj=>by simp at hj)
 simp only[List.nil_append,List.length_nil,Nat.zero_add] at h1 h3
 have hlen:δs.length=m:=by rw[h2];simp;omega
 have hlen2:us.length=m:=by rw[h2'];simp;omega
 rw[hlen2] at h1
 have hg:Good ds δs:=good_of h2 (by rw[hds];exact c1) (fun t ht=>hds ▸ ht) fun i o ho=>by
  obtain ⟨δ,u,d1,_,f⟩:=h3 i o ho
  exact ⟨δ,d1,f.d,f.ok⟩
 have hgt:∀t,Env.get { r with tm:=delAll ds r.tm } t=if t∈ds then none else r.get t:=fun t=>delAll_get
 have hfar:EFar ds (fun _=>False) { r with tm:=delAll ds r.tm } :=
  ⟨fun t v hm=>⟨.inl (delAll_mem hm),fun n hn=>.inl (farT_ok c4 t v hm n hn)⟩,fun n x hm=>⟨.inl (farO_ok c5 n x hm).1,fun m hmm=>.inl ((farO_ok c5 n x hm).2 m hmm)⟩⟩
 have hle:Le { r with tm:=delAll ds r.tm } r:=⟨fun t v e=>by
  rw[hgt] at e
  split at e
  ·cases e
  ·exact e,fun _ _ e=>e,rfl,rfl⟩
 have hp:Prot r (updO n (cont c0 us (List.replicate m true)) (envOf { r with tm:=delAll ds r.tm } δs (δs.map fun _=>true))):=by
  have e:=envOf_rt (b:={ r with tm:=delAll ds r.tm }) (l:=δs) (M:=δs.map fun _=>true)
  refine ⟨e.1,e.2,fun t ht=>?_,fun n' hn'=>?_⟩
  ·have htd:t ∉ ds:=fun hx=>noneIn_ok c2 t hx ht
   show (envOf { r with tm:=delAll ds r.tm } δs (δs.map fun _=>true)).get t=_
   rw[envOf_get htd hg,hgt,if_neg htd]
  ·rw[updO_obj,if_neg (fun e=>hrn0 (by rw[e];exact hn')),envOf_obj (farNs_ok c3 n' hn') hg];rfl
 have W1:RepW θ N w0 M0 S0 ι0 { r with tm:=delAll ds r.tm } ι S a { w with drawn:=w.drawn+1 }:=(W.forget hle).below ⟨rfl,rfl,rfl,Nat.le_refl _,fun _ _=>rfl⟩
 have hrep:Array.replicate ops.size false=⟨List.replicate ops.size false⟩:=by apply Array.ext';simp
 rw[hrep]
 have hno:∀j,(List.replicate ops.size false)[j]?≠some true:=fun j hj=>by
  rw[List.getElem?_replicate] at hj
  split at hj <;> cases hj
 refine phase1i (bb:={ r with tm:=delAll ds r.tm,ob:=del n r.ob }) B hC ops hm hlen hlen2 hg hfar ⟨fun _ _ h=>h,fun m' x h=>?_,rfl,rfl⟩ ?_ hnf hc0 h3 (by simpa using c6) h1
  (fun r' ι' S' a' w' e1 e2 e3=>hQ _ _ _ _ _ e1 e2 (hp.trans e3)) ops.size (cntF_rep _) (by simp) (fun j o _ hj=>absurd hj (hno j)) (fun j _=>hno j) (W1.forget ?_)
 ·have h:look (del n r.ob) m'=some x:=h
  rw[look_del] at h
  split at h
  ·cases h
  ·exact h
 ·show look (del n r.ob) n=none
  rw[look_del,if_pos rfl]
 ·have hc:cont c0 us (List.replicate ops.size false)=c0:=by
   have:cont c0 us (List.replicate ops.size false)=cont c0 us []:=cont_congr fun i cs hi=>by
    constructor
    ·intro h;exact absurd h (hno i)
    ·intro h;simp at h
   rw[this];cases us <;> rfl
  unfold EX3
  rw[hc]
  have hl1:Le (envOf { r with tm:=delAll ds r.tm } δs (List.replicate ops.size false)) (envOf { r with tm:=delAll ds r.tm } δs []):=envOf_le hg hfar fun i hi=>absurd hi (hno i)
  rw[envOf_nil] at hl1
  refine (updO_mono hl1).trans ⟨fun _ _ h=>h,fun m' x h=>?_,rfl,rfl⟩
  rw[updO_obj] at h
  split at h
  ·rename_i e;subst e;cases h;exact hobn
  ·exact h
end Go.VM
namespace Go.VM
open Go.RowKit
variable {P:Program} {Γ:Ctx} {θ:Nat→Value} {N:Nat} {w0:World} {M0 S0:Nat→Prop} {ι0:Nat→Value} {r r2 b bb b1:Env} {ι:Nat→Value} {S:Nat→Prop} {a:Act} {w:World} {R:Type} {cal:Cal Γ} {k:Env→Option R} {q:R} {o:Oper} {ds:List Nat}
 {Q:Exit→Act→World→Prop} {K':Act→World→Prop} {n n2:Nat} {cs cs2:List CV}
theorem drawIOA_ok (B:Base P Γ θ w0 M0 S0) (hM:P.follows .mixedOrders=true) (hC:∀g,FnOk P Γ g (Γ.ent g).sg (cal g)) {ops:Array Oper} (h:drawIOA Γ N cal ops.toList r k=some q) (W:RepW θ N w0 M0 S0 ι0 r ι S a w)
  (hQ:ExO k q θ N w0 M0 S0 ι0 r Q):wpAny P .any ops Q ops.size (Array.replicate ops.size false) a { w with drawn:=w.drawn+1 }:=by
 unfold drawIOA at h
 exact drawIO_ok B hM hC h W hQ
theorem drawB_ok (B:Base P Γ θ w0 M0 S0) (hM:P.follows .mixedOrders=true) (hC:∀g,FnOk P Γ g (Γ.ent g).sg (cal g)) {ops:Array Oper} (h:drawB Γ N cal ops.toList r k=some q) (W:RepW θ N w0 M0 S0 ι0 r ι S a w)
  (hQ:ExO k q θ N w0 M0 S0 ι0 r Q):wpAny P .any ops Q ops.size (Array.replicate ops.size false) a { w with drawn:=w.drawn+1 }:=by
 unfold drawB at h
 rcases wrap_not h with ⟨_,h⟩ | ⟨_,h⟩
 ·exact drawIOA_ok B hM hC h W hQ
 split at h
 ·rename_i so l hd
  rcases wrap_not h with ⟨_,h⟩ | ⟨_,h⟩
  ·refine drawS_ok B hM hC ?_ h W hQ
   have:=congrArg (·[0]?) hd
   simpa using this
  ·exact drawOps_ok B hM hC h W hQ
 ·exact drawOps_ok B hM hC h W hQ
theorem drawC_ok (B:Base P Γ θ w0 M0 S0) (hM:P.follows .mixedOrders=true) (hC:∀g,FnOk P Γ g (Γ.ent g).sg (cal g)) {ops:Array Oper} (h:drawC Γ N cal ops.toList r k=some q) (W:RepW θ N w0 M0 S0 ι0 r ι S a w)
  (hQ:ExO k q θ N w0 M0 S0 ι0 r Q):wpAny P .any ops Q ops.size (Array.replicate ops.size false) a { w with drawn:=w.drawn+1 }:=by
 unfold drawC at h
 rcases wrap_not h with ⟨_,h⟩ | ⟨_,h⟩
 ·exact drawCh_ok B hM hC h W hQ
 ·exact drawB_ok B hM hC h W hQ
theorem drawA_ok (B:Base P Γ θ w0 M0 S0) (hM:P.follows .mixedOrders=true) (hC:∀g,FnOk P Γ g (Γ.ent g).sg (cal g)) {id:Nat} {ops:Array Oper} (h:drawA Γ N cal ops.toList r k=some q) (W:RepW θ N w0 M0 S0 ι0 r ι S a w)
  (hQ:ExO k q θ N w0 M0 S0 ι0 r Q):(Code.region id ops true).wp P Q a w:=by
 unfold drawA at h
 exact wp_region_any hM (drawC_ok B hM hC h W hQ)
end Go.VM
namespace Go.VM
open Go.RowKit
variable {P:Program} {Γ:Ctx} {θ:Nat→Value} {N:Nat} {w0:World} {M0 S0:Nat→Prop} {ι0:Nat→Value} {r:Env} {ι:Nat→Value} {S:Nat→Prop} {a:Act} {w:World} {R:Type} {cal:Cal Γ} {H:List (Nat×List Nat×List LV)}
theorem selT_look (kp ns:List Nat) (t:Nat):∀l:List (Nat×SV),look (selT kp ns l) t=if t∈kp∧t ∉ ns then look l t else none
 | []=>by simp[selT,look]
 | (k,v) :: l=>by
  simp only[selT]
  by_cases hk:k∈kp∧k ∉ ns
  ·rw[(mem_iff k kp).2 hk.1,(mem_false k ns).2 hk.2]
   simp only[Bool.not_false,Bool.and_self,cond_true]
   rw[look_cons,look_cons,selT_look kp ns t l]
   by_cases e:k=t
   ·subst e;rw[if_pos rfl,if_pos rfl,if_pos hk]
   ·rw[if_neg e,if_neg e]
  ·have:(mem k kp && !(mem k ns))=false:=by
    cases h1:mem k kp with
    | false=>rfl
    | true =>
     cases h2:mem k ns with
     | true=>rfl
     | false=>exact absurd ⟨(mem_iff k kp).1 h1,(mem_false k ns).1 h2⟩ hk
   rw[this,cond_false,look_cons,selT_look kp ns t l]
   by_cases ht:t∈kp∧t ∉ ns
   ·rw[if_pos ht,if_pos ht,if_neg (show ¬k=t from fun e=>hk (e ▸ ht))]
   ·rw[if_neg ht,if_neg ht]
theorem keepO_look (ns:List Nat) (t:Nat):∀l:List (Nat×Ob),look (keepO ns l) t=if t∈ns then none else look l t
 | []=>by simp[keepO,look]
 | (k,v) :: l=>by
  simp only[keepO]
  by_cases hk:k∈ns
  ·rw[(mem_iff k ns).2 hk,cond_true,keepO_look ns t l,look_cons]
   by_cases ht:t∈ns
   ·rw[if_pos ht,if_pos ht]
   ·rw[if_neg ht,if_neg ht,if_neg (show ¬k=t from fun e=>ht (e ▸ hk))]
  ·rw[(mem_false k ns).2 hk,cond_false,look_cons,look_cons,keepO_look ns t l]
   by_cases e:k=t
   ·subst e;rw[if_pos rfl,if_pos rfl,if_neg hk]
   ·rw[if_neg e,if_neg e]
theorem stTm_keys:∀ {l:List LV} {x:(prodTy (l.map LV.ty)).den} {t:Nat},t∈keys (stTm l x)→t∈vSlots l
 | [],_,_,h=>h
 | .tmp s τ own :: l,x,t,h=>by
  simp only[stTm,keys,List.mem_cons] at h
  simp only[vSlots,List.mem_cons]
  exact h.imp id stTm_keys
 | .box _ _ _ :: l,x,t,h=>stTm_keys (l:=l) h
 | .row _ _ :: l,x,t,h=>stTm_keys (l:=l) h
theorem stOb_keys:∀ {l:List LV} {x:(prodTy (l.map LV.ty)).den} {n:Nat},n∈keys (stOb l x)→n∈newN l∨n∈vNames l
 | [],_,_,h=>.inl h
 | .tmp s τ own :: l,x,n,h=>by
  simp only[stOb,keys_append,List.mem_append] at h
  simp only[newN,vNames,List.mem_append]
  rcases h with h | h
  ·cases own with
   | true=>exact .inl (.inl (Eq.mp (congrArg (n∈·) (ownCells_keys τ x.1 (nm s 1))) h))
   | false=>cases h
  ·exact (stOb_keys h).imp .inr id
 | .box m τ own :: l,x,n,h=>by
  simp only[stOb,List.cons_append,keys,keys_append,List.mem_append,List.mem_cons] at h
  simp only[newN,vNames,List.mem_append,List.mem_cons]
  rcases h with h | h | h
  ·exact .inr (.inl h)
  ·cases own with
   | true=>exact .inl (.inl (Eq.mp (congrArg (n∈·) (ownCells_keys τ x.1 (m+1))) h))
   | false=>cases h
  ·exact (stOb_keys h).imp .inr .inr
 | .row m e :: l,x,n,h=>by
  simp only[stOb,keys,List.mem_cons] at h
  simp only[newN,vNames,List.mem_cons]
  rcases h with h | h
  ·exact .inr (.inl h)
  ·exact (stOb_keys h).imp id .inr
theorem silentT_ok {ns:List Nat}:∀ {l:List (Nat×SV)},silentT ns l=true→∀t v,look l t=some v→∀n,n∈v.names→n ∉ ns
 | [],_,t,v,h=>by cases h
 | (k,u) :: l,hs,t,v,h=>by
  simp only[silentT,Bool.and_eq_true] at hs
  rw[look_cons] at h
  split at h
  ·cases h;exact (disj_iff _ _).1 hs.1
  ·exact silentT_ok hs.2 t v h
theorem silentO_ok {ns:List Nat}:∀ {l:List (Nat×Ob)},silentO ns l=true→∀t v,look l t=some v→∀n,n∈v.names→n ∉ ns
 | [],_,t,v,h=>by cases h
 | (k,u) :: l,hs,t,v,h=>by
  simp only[silentO,Bool.and_eq_true] at hs
  rw[look_cons] at h
  split at h
  ·cases h;exact (disj_iff _ _).1 hs.1
  ·exact silentO_ok hs.2 t v h
structure ApOk (r:Env) (kp wv:List Nat) (l:List LV) (ns:List Nat):Prop where
 rt:∀t,t∈r.rt→t ∉ wv++vSlots l
 rn:∀n,n∈r.rn→n ∉ ns++vNames l
 rn2:∀n,n∈r.rn→n ∉ newN l
 lt:∀n,n∈newN l→n<parBase
 nd:(newN l).Nodup
 nv:∀n,n∈newN l→n ∉ vNames l
 ob:∀n,n∈newN l∨n∈vNames l→look (r.const kp wv l ns).ob n=none
 sT:∀t v,look (r.const kp wv l ns).tm t=some v→∀n,n∈v.names→n ∉ newN l
 sO:∀t v,look (r.const kp wv l ns).ob t=some v→∀n,n∈v.names→n ∉ newN l
theorem allLt_ok:∀ {l:List Nat},allLt l=true→∀n,n∈l→n<parBase
 | [],_,n,h=>by cases h
 | k :: l,hs,n,h=>by
  simp only[allLt,Bool.and_eq_true,Nat.blt_eq] at hs
  rcases List.mem_cons.1 h with rfl | h
  ·exact hs.1
  ·exact allLt_ok hs.2 n h
theorem apart_ok {kp wv:List Nat} {l:List LV} {ns:List Nat} (h:r.apart kp wv l ns=true):ApOk r kp wv l ns:=by
 simp only[Env.apart,Bool.and_eq_true] at h
 obtain ⟨⟨⟨⟨⟨⟨⟨⟨h1,h2⟩,h3⟩,h9⟩,h4⟩,h5⟩,h6⟩,h7⟩,h8⟩:=h
 have h4:=(nodup_iff _).1 h4
 have h5:=(disj_iff _ _).1 h5
 rw[List.nodup_append] at h4
 exact ⟨(disj_iff _ _).1 h1,(disj_iff _ _).1 h2,(disj_iff _ _).1 h3,allLt_ok h9,h4.1,fun n hn hv=>h4.2.2 n hn n hv rfl,
  fun n hn=>look_none (h5 n (by rcases hn with hn | hn <;> simp[hn])),silentT_ok h7,silentO_ok h8⟩
theorem const_tm {kp wv:List Nat} {l:List LV} {ns:List Nat} (t:Nat):look (r.const kp wv l ns).tm t=if t∈kp++r.rt∧t ∉ wv++vSlots l then r.get t else none:=selT_look _ _ _ _
theorem const_ob {kp wv:List Nat} {l:List LV} {ns:List Nat} (t:Nat):look (r.const kp wv l ns).ob t=if t∈ns++vNames l then none else r.obj t:=keepO_look _ _ _
theorem enter_ok (B1:∀n,(θ n).oneCell'=true) (W:RepW θ N w0 M0 S0 ι0 r ι S a w) {kp wv:List Nat} {l:List LV} {x:(prodTy (l.map LV.ty)).den} {ns:List Nat} (hst:stOf r l=some (x,ns)) (ha:ApOk r kp wv l ns) (hs:(r.const kp wv l ns).sole l ns=true) :
  ∃ι',RepW θ N w0 M0 S0 ι0 ((r.const kp wv l ns).with l x) ι' S a w:=by
 simp only[Env.sole,Bool.and_eq_true,nodup_iff,disj_iff] at hs
 refine with_ok B1 W hst (fun t v h=>?_) (fun n o h=>?_) hs.1 (fun n hn=>⟨fun h=>hs.2 n hn (List.mem_append_right _ h),?_⟩) ha.nd ha.nv ha.ob ha.sT ha.sO ha.lt
 ·rw[const_tm] at h
  split at h
  ·exact h
  ·cases h
 ·rw[const_ob] at h
  split at h
  ·cases h
  ·exact h
 ·cases hq:look (r.const kp wv l ns).ob n with
  | none=>rfl
  | some o=>exact absurd (List.mem_append_left _ (List.mem_append_right _ (look_keys hq))) (hs.2 n hn)
theorem again_st (B1:∀n,(θ n).oneCell'=true) {kp wv:List Nat} {l:List LV} {x x1:(prodTy (l.map LV.ty)).den} {ns ns1:List Nat} (ha:ApOk r kp wv l ns) {r':Env} (W:RepW θ N w0 M0 S0 ι0 r' ι S a w) (p:Prot ((r.const kp wv l ns).with l x) r')
  (hst:stOf r' l=some (x1,ns1)) (hs:r'.sole l ns1=true):∃ι',RepW θ N w0 M0 S0 ι0 ((r.const kp wv l ns).with l x1) ι' S a w:=by
 simp only[Env.sole,Bool.and_eq_true,nodup_iff,disj_iff] at hs
 have hrn:r'.rn=r.rn++keys (r.const kp wv l ns).ob:=p.rn
 refine with_ok B1 W hst (fun t v h=>?_) (fun n o h=>?_) hs.1 (fun n hn=>⟨fun h=>hs.2 n hn (List.mem_append_right _ h),?_⟩) ha.nd ha.nv ha.ob ha.sT ha.sO ha.lt
 ·have hk:=look_keys h
  have:=p.tm t (List.mem_append_right _ hk)
  rw[this]
  show look (stTm l x++(r.const kp wv l ns).tm) t=some v
  rw[look_append,look_none (fun hk2=>?_)]
  ·exact h
  ·have:=stTm_keys hk2
   rw[const_tm,if_neg (fun hh=>hh.2 (List.mem_append_right _ this))] at h
   cases h
 ·have hk:=look_keys h
  have:=p.ob n (List.mem_append_right _ hk)
  rw[this]
  show look (stOb l x++(r.const kp wv l ns).ob) n=some o
  rw[look_append,look_none (fun hk2=>?_)]
  ·exact h
  ·rw[ha.ob n (stOb_keys hk2)] at h
   cases h
 ·cases hq:look (r.const kp wv l ns).ob n with
  | none=>rfl
  | some o=>exact absurd (List.mem_append_left _ (by rw[hrn];exact List.mem_append_right _ (look_keys hq))) (hs.2 n hn)
theorem RepW.marks (W:RepW θ N w0 M0 S0 ι0 r ι S a w) (rt rn:List Nat):RepW θ N w0 M0 S0 ι0 { r with rt:=rt,rn:=rn } ι S a w :=
 ⟨W.s0,W.sn,W.sb,W.tms,W.obs,W.own,W.inj,W.keep,W.size,W.one,W.fx,W.dfs⟩
theorem with_prot {kp wv:List Nat} {l:List LV} {x:(prodTy (l.map LV.ty)).den} {ns:List Nat} (ha:ApOk r kp wv l ns) {r':Env} (p:Prot ((r.const kp wv l ns).with l x) r'):Prot r { r' with rt:=r.rt,rn:=r.rn }:=by
 refine ⟨rfl,rfl,fun t ht=>?_,fun n hn=>?_⟩
 ·have:=p.tm t (List.mem_append_left _ ht)
  refine this.trans ?_
  show look (stTm l x++(r.const kp wv l ns).tm) t=r.get t
  have hk:=ha.rt t ht
  rw[look_append,look_none (fun hk2=>hk (List.mem_append_right _ (stTm_keys hk2))),const_tm,if_pos ⟨List.mem_append_right _ ht,hk⟩];rfl
 ·have:=p.ob n (List.mem_append_left _ hn)
  refine this.trans ?_
  show look (stOb l x++(r.const kp wv l ns).ob) n=r.obj n
  have hk:=ha.rn n hn
  rw[look_append,look_none (fun hk2=>(stOb_keys hk2).elim (ha.rn2 n hn) (fun h=>hk (List.mem_append_right _ h))),const_ob,if_neg hk];rfl
def toX:VExit→Exit
 | .normal=>.normal
 | .exit i=>.exit i
 | .ret=>.ret
def Lw (P:Program) (c:Code) (Q:Exit→Act→World→Prop) (a:Act) (w:World):Prop :=
 ∀(b:Frame) (k:List Item) (cs:List Frame),∃e a' w',Q e a' w'∧Arrives P (lone (b.at a (.code c :: .inLoop c :: k)) cs w) b k cs e a' w'
theorem wp_of_Lw {c:Code} {Q:Exit→Act→World→Prop} (h:Lw P c Q a w):(Code.loop c).wp P Q a w:=fun b k cs =>
 let ⟨e,a',w',q,r⟩:=h b k cs
 ⟨e,a',w',q,.of_steps (.one step_loop) r⟩
theorem Lw_step {c:Code} {Q:Exit→Act→World→Prop} (h:c.wp P (Exit.then (Lw P c Q) Q) a w):Lw P c Q a w:=by
 intro b k cs
 obtain ⟨e,a₁,w₁,hq,harr⟩:=h b (.inLoop c :: k) cs
 cases e with
 | normal =>
  obtain ⟨e₂,a₂,w₂,hq₂,harr₂⟩:=hq b k cs
  exact ⟨e₂,a₂,w₂,hq₂,.of_steps (Steps.trans harr (.one step_inLoop)) harr₂⟩
 | exit id=>exact ⟨_,a₁,w₁,hq,.pass (x:=.inLoop c) rfl (fun _ _=>.inl (by simp)) harr⟩
 | goto l=>exact ⟨_,a₁,w₁,hq,.pass (x:=.inLoop c) rfl (fun _ _=>.inl (by simp)) harr⟩
 | ret=>exact ⟨_,a₁,w₁,hq,.pass (x:=.inLoop c) rfl (fun _ _=>.inl (by simp)) harr⟩
 | panic ch=>exact ⟨_,a₁,w₁,hq,.pass (x:=.inLoop c) rfl (fun _ _=>.inl (by simp)) harr⟩
 | outgrown=>exact ⟨_,a₁,w₁,hq,.pass (x:=.inLoop c) rfl (fun _ _=>.inl (by simp)) harr⟩
theorem pre_ok {R:Type} {r:Env} {S:Nat→Prop} {w:World} {o:Option (List Nat×List LV)} {k:Env→Option R} {q:R} (h:r.pre o k=some q) (W:RepW θ N w0 M0 S0 ι0 r ι S a w) :
  ∃r' S',k r'=some q∧RepW θ N w0 M0 S0 ι0 r' ι S' a w∧Prot r r':=by
 unfold Env.pre at h
 split at h
 ·exact ⟨r,S,h,W,.refl r⟩
 ·obtain ⟨r',S',h1,_,h3,h4⟩:=freezeAll_ok h W
  exact ⟨r',S',h1,h3,h4⟩
theorem exec_ok (B:Base P Γ θ w0 M0 S0) (hC:∀g,FnOk P Γ g (Γ.ent g).sg (cal g)) (n:Nat):∀(c:Code) {R:Type} {r:Env} {k:VExit→Env→Option R} {q:R},exec Γ N cal H n c R r k=some q →
  ∀ {ι:Nat→Value} {S:Nat→Prop} {a:Act} {w:World},RepW θ N w0 M0 S0 ι0 r ι S a w→∀ {Q:Exit→Act→World→Prop},
   (∀e r' ι' S' a' w',k e r'=some q→RepW θ N w0 M0 S0 ι0 r' ι' S' a' w'→Prot r r'→Q (toX e) a' w')→c.wp P Q a w
 | .skip,R,r,k,q,h,ι,S,a,w,W,Q,hQ=>wp_skip (hQ .normal _ _ _ _ _ h W (.refl r))
 | .label l,R,r,k,q,h,ι,S,a,w,W,Q,hQ=>wp_label (hQ .normal _ _ _ _ _ h W (.refl r))
 | .exit id,R,r,k,q,h,ι,S,a,w,W,Q,hQ=>wp_exit (hQ (.exit id) _ _ _ _ _ h W (.refl r))
 | .ret,R,r,k,q,h,ι,S,a,w,W,Q,hQ=>wp_ret (hQ .ret _ _ _ _ _ h W (.refl r))
 | .goto l,R,r,k,q,h,ι,S,a,w,W,Q,hQ=>by cases h
 | .refuse y,R,r,k,q,h,ι,S,a,w,W,Q,hQ=>by cases h
 | .rangeFunc _ _ _ _,R,r,k,q,h,ι,S,a,w,W,Q,hQ=>by cases h
 | .region id ops draw,R,r,k,q,h,ι,S,a,w,W,Q,hQ=>by
  simp only[exec] at h
  obtain ⟨r1,S1,h,W,p1⟩:=pre_ok h W
  cases draw with
  | false=>exact wp_region_list (execOps_ok B hC ops ops.toList h W fun r' ι' S' a' w' h' W' p'=>hQ .normal _ _ _ _ _ h' W' (p1.trans p'))
  | true=>exact drawA_ok B B.mo hC h W fun r' ι' S' a' w' h' W' p'=>hQ .normal _ _ _ _ _ h' W' (p1.trans p')
 | .cond c x y,R,r,k,q,h,ι,S,a,w,W,Q,hQ=>by
  simp only[exec] at h
  split at h
  ·rename_i b hb
   have hc:a.eval c=.bool b:=evc_ok B W hb
   have hl:RepW θ N w0 M0 S0 ι0 (r.lit c b) ι S a w∧Prot r (r.lit c b):=by
    cases c with
    | tmp t =>
     refine lit_ok W ?_
     simp only[Env.evc,Env.eval] at hb
     split at hb
     ·rename_i c' hc';cases hb;exact hc'
     ·cases hb
    | _=>exact ⟨W,.refl r⟩
   cases b with
   | true=>exact wp_cond_true hc (exec_ok B hC n x h hl.1 fun e r' ι' S' a' w' h' W' p'=>hQ e _ _ _ _ _ h' W' (hl.2.trans p'))
   | false=>exact wp_cond_false hc (exec_ok B hC n y h hl.1 fun e r' ι' S' a' w' h' W' p'=>hQ e _ _ _ _ _ h' W' (hl.2.trans p'))
  ·cases h
 | .block id b,R,r,k,q,h,ι,S,a,w,W,Q,hQ=>by
  simp only[exec] at h
  refine wp_block (exec_ok B hC n b h W fun e r' ι' S' a' w' h' W' p'=>?_)
  cases e with
  | normal=>exact hQ .normal _ _ _ _ _ h' W' p'
  | ret=>exact hQ .ret _ _ _ _ _ h' W' p'
  | exit i =>
   simp only[nbeq,Bool.cond_decide] at h'
   simp only[toX,Exit.inBlock]
   by_cases hi:i=id
   ·rw[if_pos hi] at h' ⊢;exact hQ .normal _ _ _ _ _ h' W' p'
   ·rw[if_neg hi] at h' ⊢;exact hQ (.exit i) _ _ _ _ _ h' W' p'
 | .scope b,R,r,k,q,h,ι,S,a,w,W,Q,hQ=>by
  simp only[exec] at h
  refine wp_scope_straight (exec_ok B hC n b h W fun e r' ι' S' a' w' h' W' p'=>?_)
  have:=hQ e _ _ _ _ _ h' W' p'
  cases e <;> exact this
 | .loop b,R,r,k,q,h,ι,S,a,w,W,Q,hQ=>by
  simp only[exec] at h
  split at h
  ·cases h
  ·rename_i kp l hl
   split at h
   ·cases h
   ·rename_i x0 ns hst
    obtain ⟨hb,h⟩:=bif_some h
    simp only[Bool.and_eq_true] at hb
    have ha:=apart_ok hb.1
    obtain ⟨ιe,W0⟩:=enter_ok B.one W hst ha hb.2
    refine wp_of_Lw ?_
    clear W hst
    have key:∀(m:Nat) (x:(prodTy (l.map LV.ty)).den) (ι:Nat→Value) (S:Nat→Prop) (a:Act) (w:World),loopR (fun self x=>exec Γ N cal H n b R ((r.const kp (wr b) l ns).with l x) fun e r'=>match e with
      | .normal=>match stOf r' l with
       | some (x1,ns1)=>bif r'.sole l ns1 then self x1 else none
       | none=>none
      | e=>k e { r' with rt:=r.rt,rn:=r.rn }) m x=some q→RepW θ N w0 M0 S0 ι0 ((r.const kp (wr b) l ns).with l x) ι S a w→Lw P b Q a w:=by
     intro m
     induction m with
     | zero=>intro x ι S a w h _;cases h
     | succ m ih =>
      intro x ι S a w h W
      refine Lw_step (exec_ok B hC n b h W fun e r' ι' S' a' w' h' W' p'=>?_)
      cases e with
      | normal =>
       simp only at h'
       split at h'
       ·rename_i x1 ns1 hst1
        obtain ⟨hs1,h'⟩:=bif_some h'
        obtain ⟨ι2,W2⟩:=again_st B.one ha W' p' hst1 hs1
        exact ih x1 ι2 S' a' w' h' W2
       ·cases h'
      | ret=>exact hQ .ret _ _ _ _ _ h' (W'.marks _ _) (with_prot ha p')
      | exit i=>exact hQ (.exit i) _ _ _ _ _ h' (W'.marks _ _) (with_prot ha p')
    exact key n x0 ιe S a w h W0
 | .seq x y,R,r,k,q,h,ι,S,a,w,W,Q,hQ=>by
  simp only[exec] at h
  split at h
  ·refine wp_seq (exec_ok B hC n x h W fun e r' ι' S' a' w' h' W' p'=>?_)
   cases e with
   | normal=>exact exec_ok B hC n y h' W' fun e r2 ι2 S2 a2 w2 h2 W2 p2=>hQ e _ _ _ _ _ h2 W2 (p'.trans p2)
   | ret=>exact hQ .ret _ _ _ _ _ h' W' p'
   | exit i=>exact hQ (.exit i) _ _ _ _ _ h' W' p'
  ·rename_i kp l hl
   split at h
   ·cases h
   ·rename_i x0 ns hst
    obtain ⟨hb,h⟩:=bif_some h
    simp only[Bool.and_eq_true] at hb
    have ha:=apart_ok hb.1
    obtain ⟨ιe,W0⟩:=enter_ok B.one W hst ha hb.2
    obtain ⟨s,hs,h⟩:=Option.bind_eq_some_iff.1 h
    refine wp_seq (exec_ok B hC n x hs W0 fun e r' ι' S' a' w' h' W' p'=>?_)
    cases e with
    | normal =>
     simp only at h'
     split at h'
     ·rename_i x1 ns1 hst1
      obtain ⟨hs1,h'⟩:=bif_some h'
      cases h'
      obtain ⟨ι2,W2⟩:=again_st B.one ha W' p' hst1 hs1
      refine exec_ok B hC n y h (W2.marks r.rt r.rn) fun e r2 ι3 S2 a2 w2 h2 W3 p2=>hQ e _ _ _ _ _ h2 W3 ?_
      refine Prot.trans (with_prot ha (x:=x1) (.refl _)) p2
     ·cases h'
    | ret =>
     simp only at h'
     split at h'
     ·rename_i q' hq';cases h';cases h;exact hQ .ret _ _ _ _ _ hq' (W'.marks _ _) (with_prot ha p')
     ·cases h'
    | exit i =>
     simp only at h'
     split at h'
     ·rename_i q' hq';cases h';cases h;exact hQ (.exit i) _ _ _ _ _ hq' (W'.marks _ _) (with_prot ha p')
     ·cases h'
end Go.VM
namespace Go.VM
open Go.RowKit
variable {P:Program} {Γ:Ctx} {θ:Nat→Value} {N:Nat} {w0:World} {M0 S0:Nat→Prop} {ι0:Nat→Value} {r:Env} {ι:Nat→Value} {S:Nat→Prop} {a:Act} {w:World} {R:Type} {cal:Cal Γ} {H:List (Nat×List Nat×List LV)}
def resF (a:Act):ResultVar→Sem Value
 | .tmp t=>pure (a.tmps.getD t undef)
 | .cell s t=>do loadVar t (←asAddr (a.tmps.getD s undef))
def ResEv (P:Program) (a:Act) (w:World) (v:ResultVar) (V:Value):Prop:=(resF a v).run P w=.ok V w
theorem run_results {fn:Func} {Vals:List Value} (h:All2 (ResEv P a w) fn.results.toList Vals) :
  (results fn a.tmps).run P w=.ok (if hh:Vals.length=1 then Vals[0] else .tuple ⟨Vals⟩) w:=by
 have key:∀(f:ResultVar→Sem Value),(∀v,f v=resF a v)→∀(l:List ResultVar) (Vals:List Value),All2 (ResEv P a w) l Vals→(l.mapM f).run P w=.ok Vals w:=by
  intro f hf l Vals h
  induction h with
  | nil=>simp
  | @cons v V l Vals h1 h2 ih =>
   have h1:(resF a v).run P w=.ok V w:=h1
   simp only[List.mapM_cons,Sem.run_bind,hf,h1,Sem.run_pure,Result.andThen_ok,ih]
 unfold results
 rw[Array.mapM_eq_mapM_toList]
 simp only[Sem.run_bind,Sem.run_map]
 rw[key _ (fun v=>by cases v <;> rfl) _ _ h]
 simp only[Result.andThen_ok,Sem.run_pure]
 rfl
theorem resVal_ok (hT:TyOk P Γ.tys) (W:RepW θ N w0 M0 S0 ι0 r ι S a w) {v:ResultVar} {u:TV} (h:resVal Γ r v=some u):∃V,ResEv P a w v V∧RTV ι θ S w u V:=by
 cases v with
 | tmp s =>
  simp only[resVal] at h
  split at h
  ·rename_i u' hu
   cases h
   exact ⟨_,rfl,W.tms s _ hu⟩
  ·cases h
 | cell s t =>
  simp only[resVal] at h
  split at h
  ·rename_i τ p ht hp
   split at h
   ·rename_i cs hcs
    obtain ⟨hl,hv⟩:=bif_some h
    rw[nbeq,decide_eq_true_eq] at hl
    obtain ⟨b,off,vs,h1,h2,h3⟩:=rd_ok W (show RCV ι θ S w p _ from W.tms s _ hp) hcs
    refine ⟨aggOf τ vs,?_,asTV_ok hv h2⟩
    have:=run_loadVar (P:=P) (w:=w) (hT t τ ht) (h2.length.symm.trans hl) h3
    simp[ResEv,resF,h1,asAddr,this]
   ·cases h
  ·cases h
def Taken (r:Env) (n:Nat):Prop:=(∃e xs,r.obj n=some (.row e xs))∨(n<parBase∧∃cs,r.obj n=some (.box cs))
def nOwn:Nat→Ty→Nat
 | 0,_=>0
 | 1,t=>lists t
 | _+2,_=>1
theorem ptrOf_ok (W:RepW θ N w0 M0 S0 ι0 r ι S a w) {S':Nat→Prop} (hs:∀b,S b→S' b) {t:Ty} {v:TV} {V:Value} {p:t.den×List Nat} (h:ptrOf r t v=some p) (hv:RTV ι θ S w v V) :
  ∃n,p.2=[n]∧Taken r n∧∀ι' m,ι' m=ι n→RTV ι' θ S' w (.one (.ref m 0)) V∧ROb ι' θ S' w m (.box (toCells t p.1)):=by
 unfold ptrOf at h
 split at h
 ·rename_i n
  obtain ⟨hlt,h⟩:=bif_some h
  split at h
  ·rename_i cs hcs
   split at h
   ·rename_i x hx
    cases h
    refine ⟨n,rfl,.inr ⟨by simpa using hlt,cs,hcs⟩,fun ι' m hm=>?_⟩
    obtain ⟨b,vs,h1,h2,h3,h4,h5⟩:=W.obs _ _ hcs
    obtain ⟨v1,v2,e12,hR,hnil⟩:=ofCells_ok (S':=S) (fun _ h=>h) none_ob hx h3
    cases hnil
    rw[List.append_nil] at e12
    subst e12
    obtain ⟨b',hb1,hb2⟩:=(show RCV ι θ S w (.ref n 0) V from hv)
    refine ⟨⟨b',hm.trans hb1,hb2⟩,⟨b,_,hm.trans h1,h2,(hR.mono hs (fun _ _=>rfl)).cells,h4,h5⟩⟩
   ·cases h
  ·cases h
 ·cases h
theorem resOne_ok (B1:∀n,(θ n).oneCell'=true) (W:RepW θ N w0 M0 S0 ι0 r ι S a w) {S':Nat→Prop} {ob:Nat→Option Ob} (hs:∀b,S b→S' b) (hob:∀n e xs,ob n=some (.row e xs)→RepC θ S' w (.lst e) xs [ι n]) {t:Ty} {own:Nat} {v:TV} {V:Value} {p:t.den×List Nat}
  (h:resOne r ob t own v=some p) (hv:RTV ι θ S w v V):∃(Ls:List (Option Nat)),Ls.length=nOwn own t∧p.2=Ls.filterMap id∧(∀n,n∈p.2→Taken r n) ∧
   ∀ι' m,(∀i L,Ls[i]? = some L→ι' (m+i)=valOf ι L)→RTV ι' θ S' w (resM own t (resC own t p.1 m).1) V∧∀n o,look (resC own t p.1 m).2 n=some o→ROb ι' θ S' w n o:=by
 match own with
 | 1 =>
  simp only[resOne] at h
  obtain ⟨Ls,l1,l2,l3,l4⟩:=takeC_ok (fun n o h=>W.obs n o h) W.one B1 (x:=p.1) (ns:=p.2) h hv
  refine ⟨Ls,l1,l2,fun n hn=>.inl (l3 n hn),fun ι' m hι=>?_⟩
  obtain ⟨k1,k2⟩:=l4 ι' m hι
  exact ⟨RTV.mono hs (fun _ _=>rfl) (fun _ _=>rfl) k1,fun n o hn=>ROb.mono hs (fun _ _=>rfl) (Nat.le_refl _) rfl (fun _ _=>rfl) (fun _ _=>rfl) (k2 n o hn)⟩
 | 0 =>
  simp only[resOne] at h
  split at h
  ·rename_i y hy
   cases h
   obtain ⟨vs,hR,hV,hcl⟩:=denTV_ok hs hob B1 hy hv
   refine ⟨[],rfl,rfl,fun n hn=>(by cases hn),fun ι' m _=>⟨?_,fun n o hn=>(by cases hn)⟩⟩
   have hc:=hR.cells (ι:=ι')
   simp only[resM,resC]
   cases t
   case unit=>exact ⟨vs,by rw[hV];rfl,hc⟩
   case pair=>exact ⟨vs,by rw[hV];rfl,hc⟩
   all_goals
    simp only[toCells] at hc
    cases hc with
    | cons k1 k2=>cases k2;rw[hV];exact k1
  ·cases h
 | k+2 =>
  simp only[resOne] at h
  obtain ⟨n,e1,e2,e3⟩:=ptrOf_ok W hs h hv
  refine ⟨[some n],rfl,e1,fun m hm=>?_,fun ι' m hι=>?_⟩
  ·rw[e1,List.mem_singleton] at hm;subst hm;exact e2
  ·obtain ⟨k1,k2⟩:=e3 ι' m (by simpa [valOf] using hι 0 (some n) rfl)
   refine ⟨k1,fun n' o hn=>?_⟩
   simp only[resC] at hn
   rw[look_cons] at hn
   split at hn
   ·rename_i e;subst e;cases hn;exact k2
   ·cases hn
theorem resC_len (own:Nat) (t:Ty) (x:t.den) (m:Nat):(resC own t x m).2.length=nOwn own t:=by
 match own with
 | 0=>rfl
 | 1=>exact ownCells_len _ _ _
 | _+2=>rfl
theorem resC_keys (own:Nat) (t:Ty) (x:t.den) (m:Nat):keys (resC own t x m).2=upFrom m (nOwn own t):=by
 match own with
 | 0=>rfl
 | 1=>exact ownCells_keys _ _ _
 | _+2=>rfl
theorem resOf_ok (hT:TyOk P Γ.tys) (B1:∀n,(θ n).oneCell'=true) (W:RepW θ N w0 M0 S0 ι0 r ι S a w) {S':Nat→Prop} {ob:Nat→Option Ob} (hs:∀b,S b→S' b) (hob:∀n e xs,ob n=some (.row e xs)→RepC θ S' w (.lst e) xs [ι n]) {l:List Ty} {io:List Nat→Option (prodTy l).den} :
  ∀ {rs:List (Ty×Nat)} {vs:List ResultVar} {ns:List Nat} {y:(prodTy (rs.map (·.1)++l)).den},resOf Γ r ob rs vs l io ns=some y →
   ∃(Vals:List Value) (Ls:List (Option Nat)),All2 (ResEv P a w) vs Vals∧(∀base,(resTV rs l y base).2.1.length=Ls.length)∧(∀base,keys (resTV rs l y base).2.1=upFrom base Ls.length)∧(ns++Ls.filterMap id).Nodup∧(∀n,n∈Ls.filterMap id→Taken r n) ∧
    (∀base,io (ns++Ls.filterMap id)=some (resTV rs l y base).2.2) ∧
    ∀base ι',(∀i L,Ls[i]? = some L→ι' (base+i)=valOf ι L)→All2 (RTV ι' θ S' w) (resTV rs l y base).1 Vals∧∀n o,look (resTV rs l y base).2.1 n=some o→ROb ι' θ S' w n o
 | [],[],ns,y,h=>by
  simp only[resOf] at h
  obtain ⟨hn,h⟩:=bif_some h
  exact ⟨[],[],.nil,fun _=>rfl,fun _=>rfl,by simpa using (nodup_iff _).1 hn,fun n hn=>(by cases hn),fun base=>by simpa [resTV] using h,fun base ι' _=>⟨.nil,fun n o hn=>(by cases hn)⟩⟩
 | [],v :: vs,ns,y,h=>by cases h
 | (t,own) :: rs,[],ns,y,h=>by cases h
 | (t,own) :: rs,v :: vs,ns,y,h=>by
  simp only[resOf] at h
  split at h
  ·rename_i u hu
   ·split at h
    ·rename_i p hp
     split at h
     ·rename_i q hq
      cases h
      obtain ⟨V,hV,hVr⟩:=resVal_ok hT W hu
      obtain ⟨L1,l1,l2,l3,l4⟩:=resOne_ok B1 W hs hob hp hVr
      obtain ⟨Vals,L2,g0,g1,g2,g3,g4,g5,g6⟩:=resOf_ok hT B1 W hs hob (l:=l) (io:=io) (y:=q) hq
      have hlen:∀base,(resC own t p.1 base).2.length=L1.length:=fun base=>by rw[l1];exact resC_len _ _ _ _
      have hkeys:∀base,keys (resC own t p.1 base).2=upFrom base L1.length:=fun base=>by rw[l1];exact resC_keys _ _ _ _
      refine ⟨V :: Vals,L1++L2,.cons hV g0,fun base=>?_,fun base=>?_,?_,fun n hn=>?_,fun base=>?_,fun base ι' hι=>?_⟩
      ·simp only[resTV,List.length_append]
       rw[g1,hlen]
      ·simp only[resTV,keys_append,List.length_append]
       rw[g2,hkeys,hlen,upFrom_append]
      ·rw[List.filterMap_append,←l2,←List.append_assoc];exact g3
      ·rw[List.filterMap_append,List.mem_append] at hn
       rcases hn with hn | hn
       ·exact l3 n (by rw[l2];exact hn)
       ·exact g4 n hn
      ·rw[List.filterMap_append,←l2,←List.append_assoc]
       exact g5 _
      ·obtain ⟨k1,k2⟩:=l4 ι' base (fun i L hL=>hι i L (by rw[List.getElem?_append_left (List.getElem?_eq_some_iff.1 hL).1];exact hL))
       obtain ⟨k3,k4⟩:=g6 (base+L1.length) ι' (fun i L hL=>by
        rw[Nat.add_assoc]
        refine hι _ L ?_
        rw[List.getElem?_append_right bo%,show L1.length+i-L1.length=i by omega];exact hL)
       simp only[resTV]
       rw[hlen]
       refine ⟨.cons k1 k3,fun n o hn=>?_⟩
       rw[look_append] at hn
       cases hq2:look (resC own t p.1 base).2 n with
       | some o'=>rw[hq2] at hn;cases hn;exact k2 n _ hq2
       | none=>rw[hq2] at hn;exact k4 n o hn
     ·cases h
    ·cases h
  ·cases h
end Go.VM
namespace Go.VM
open Go.RowKit
variable {P:Program} {Γ:Ctx} {θ:Nat→Value} {N:Nat} {w0:World} {M0 S0:Nat→Prop} {ι0:Nat→Value} {r:Env} {ι:Nat→Value} {S:Nat→Prop} {a:Act} {w:World} {R:Type} {cal:Cal Γ} {H:List (Nat×List Nat×List LV)}
theorem toCells_names:∀(t:Ty) (x:t.den),cnames (toCells t x)=[]
 | .unit,_=>rfl
 | .pair a b,x=>by
  have:∀l l':List CV,cnames (l++l')=cnames l++cnames l':=fun l l'=>by
   induction l with
   | nil=>rfl
   | cons c l ih=>simp[cnames,ih]
  simp only[toCells,this,toCells_names a,toCells_names b,List.append_nil]
 | .int _,_=>rfl
 | .bool,_=>rfl
 | .str,_=>rfl
 | .lst _,_=>rfl
 | .opq,_=>rfl
 | .adr _,_=>rfl
 | .rd _,_=>rfl
 | .err,_=>rfl
theorem ioOf_ok (W:RepW θ N w0 M0 S0 ι0 r ι S a w):∀ {ps:List (Ty×Nat)} {i:Nat} {ns:List Nat} {y:(prodTy (ioTys ps)).den},ioOf r i ps ns=some y →
  (∀n o,look (ioObs i ps y) n=some o→ROb ι θ S w n o∧o.names=[]∧parBase≤n)∧∀(x:(prodTy (ps.map pTy)).den) n o,look (parsOb i ps x) n=some o→parBase≤n∧((∃cs,r.obj n=some (.box cs))∨(n ∉ ns∧∃o',r.obj n=some o'))
 | [],i,ns,y,h=>⟨fun n o hn=>(by cases hn),fun x n o hn=>(by cases hn)⟩
 | (t,0) :: ps,i,ns,y,h=>by
  obtain ⟨g1,g2⟩:=ioOf_ok W (ps:=ps) (i:=i+1) h
  refine ⟨g1,fun x n o hn=>g2 x.2 n o ?_⟩
  simp only[parsOb] at hn
  exact hn
 | (t,1) :: ps,i,ns,y,h=>by
  simp only[ioOf] at h
  split at h
  ·rename_i cs hcs
   split at h
   ·rename_i x0 hx0
    split at h
    ·rename_i q hq
     cases h
     obtain ⟨g1,g2⟩:=ioOf_ok W (ps:=ps) (i:=i+1) hq
     refine ⟨fun n o hn=>?_,fun x n o hn=>?_⟩
     ·simp only[ioObs] at hn
      rw[look_cons] at hn
      split at hn
      ·rename_i e;subst e;cases hn
       obtain ⟨b,vs,h1,h2,h3,h4,h5⟩:=W.obs _ _ hcs
       obtain ⟨v1,v2,e12,hR,hnil⟩:=ofCells_ok (S':=S) (fun _ h=>h) none_ob hx0 h3
       cases hnil
       rw[List.append_nil] at e12
       subst e12
       exact ⟨⟨b,_,h1,h2,hR.cells,h4,h5⟩,toCells_names _ _,by unfold pn;omega⟩
      ·exact g1 n o hn
     ·simp only[parsOb] at hn
      rw[look_append] at hn
      simp only[parOb,look_cons] at hn
      by_cases e:pn i 0=n
      ·subst e
       exact ⟨by unfold pn;omega,.inl ⟨cs,hcs⟩⟩
      ·rw[if_neg e] at hn
       exact g2 x.2 n o (by simpa [look] using hn)
    ·cases h
   ·cases h
  ·cases h
 | (e,2) :: ps,i,ns,y,h=>by
  simp only[ioOf] at h
  obtain ⟨hm,h⟩:=bifn_some h
  split at h
  ·rename_i e' xs hxs
   split at h
   ·rename_i he
    subst he
    split at h
    ·rename_i q hq
     cases h
     obtain ⟨g1,g2⟩:=ioOf_ok W (ps:=ps) (i:=i+1) hq
     refine ⟨fun n o hn=>?_,fun x n o hn=>?_⟩
     ·simp only[ioObs] at hn
      rw[look_cons] at hn
      split at hn
      ·rename_i e;subst e;cases hn
       exact ⟨W.obs _ _ hxs,rfl,by unfold pn;omega⟩
      ·exact g1 n o hn
     ·simp only[parsOb] at hn
      rw[look_append] at hn
      simp only[parOb,look_cons] at hn
      by_cases e:pn i 1=n
      ·subst e
       exact ⟨by unfold pn;omega,.inr ⟨(mem_false _ _).1 hm,_,hxs⟩⟩
      ·rw[if_neg e] at hn
       exact g2 x.2 n o (by simpa [look] using hn)
    ·cases h
   ·cases h
  ·cases h
 | (t,3) :: ps,i,ns,y,h=>by
  simp only[ioOf] at h
  obtain ⟨hm,h⟩:=bifn_some h
  simp only[Bool.or_eq_false_iff,Bool.not_eq_false'] at hm
  obtain ⟨hm,hl⟩:=hm
  have hl:=Nat.eq_of_beq_eq_true hl
  split at h
  ·rename_i e' xs hxs
   split at h
   ·rename_i he
    subst he
    split at h
    ·rename_i q hq
     cases h
     obtain ⟨g1,g2⟩:=ioOf_ok W (ps:=ps) (i:=i+1) hq
     refine ⟨fun n o hn=>?_,fun x n o hn=>?_⟩
     ·simp only[ioObs] at hn
      rw[look_cons] at hn
      split at hn
      ·rename_i e;subst e;cases hn
       exact ⟨W.obs _ _ hxs,rfl,by unfold pn;omega⟩
      ·exact g1 n o hn
     ·obtain ⟨ys,hys⟩:=lists_one hl x.1
      have hn:look ((ownCells t x.1 (pn i 1)).2++parsOb (i+1) ps x.2) n=some o:=hn
      rw[hys] at hn
      simp only[List.cons_append,List.nil_append,look_cons] at hn
      by_cases e:pn i 1=n
      ·subst e
       exact ⟨by unfold pn;omega,.inr ⟨(mem_false _ _).1 hm,_,hxs⟩⟩
      ·rw[if_neg e] at hn
       exact g2 x.2 n o hn
    ·cases h
   ·cases h
  ·cases h
 | (_,n+4) :: ps,i,ns,y,h=>by cases h
theorem look_zipN:∀(l:List SV) (i t:Nat),look (zipN i l) t=if i≤t then l[t-i]? else none
 | [],i,t=>by simp[zipN,look]
 | v :: l,i,t=>by
  simp only[zipN]
  rw[look_cons,look_zipN l (i+1) t]
  by_cases e:i=t
  ·subst e;simp
  ·rw[if_neg e]
   by_cases h:i≤t
   ·rw[if_pos h,if_pos bo%]
    rw[show t-i=(t-(i+1))+1 by omega,List.getElem?_cons_succ]
   ·rw[if_neg h,if_neg bo%]
theorem All2.at {α β:Type} {Q:α→β→Prop} {xs:List α} {ys:List β} (h:All2 Q xs ys):∀ {i:Nat} {x:α},xs[i]? = some x→∃y,ys[i]? = some y∧Q x y:=by
 induction h with
 | nil=>intro i x h;simp at h
 | cons h hs ih=>intro i x e;cases i with
  | zero=>cases e;exact ⟨_,rfl,h⟩
  | succ i=>obtain ⟨y,h1,h2⟩:=ih (by simpa using e);exact ⟨y,by simpa using h1,h2⟩
theorem parsSV_len:∀(ps:List (Ty×Nat)) (i:Nat) (x:(prodTy (ps.map pTy)).den),(parsSV i ps x).length=ps.length
 | [],_,_=>rfl
 | p :: ps,i,x=>by simp[parsSV,parsSV_len ps]
theorem lists_zero:∀ {t:Ty},hasLst t=false→lists t=0
 | .pair a b,h=>by simp only[hasLst,Bool.or_eq_false_iff] at h;simp[lists,lists_zero h.1,lists_zero h.2]
 | .lst e,h=>by cases h
 | .unit,_=>rfl
 | .int _,_=>rfl
 | .bool,_=>rfl
 | .str,_=>rfl
 | .opq,_=>rfl
 | .adr _,h=>by cases h
 | .rd _,h=>by cases h
 | .err,_=>rfl
theorem resTV_none {l:List Ty}:∀ {rs:List (Ty×Nat)} {y:(prodTy (rs.map (·.1)++l)).den} {base:Nat},anyOwn rs=false→(resTV rs l y base).2.1.length=0
 | [],_,_,_=>rfl
 | (t,own) :: rs,y,base,h=>by
  simp only[anyOwn,Bool.or_eq_false_iff] at h
  simp only[resTV,List.length_append,resTV_none h.2,resC_len]
  match own,h.1 with
  | 0,_=>rfl
  | 1,h1=>exact lists_zero h1
theorem oneOf_ok {ι':Nat→Value} {S':Nat→Prop} {tvs:List TV} {Vals:List Value} (h:All2 (RTV ι' θ S' w) tvs Vals):RSV ι' θ S' w (oneOf tvs) (if hh:Vals.length=1 then Vals[0] else .tuple ⟨Vals⟩):=by
 cases h with
 | nil=>exact ⟨[],rfl,.nil⟩
 | cons h1 h2 =>
  cases h2 with
  | nil=>exact h1
  | cons h3 h4=>exact ⟨_,by simp,.cons h1 (.cons h3 h4)⟩
theorem fn_ok (hM:P.follows .mixedOrders=true) (hT:TyOk P Γ.tys) (hQ:EqsOk P Γ) (hH:∀g kd,look Γ.ho g=some kd→HoOk P g kd) (hN:EnOk P Γ) (hC:∀g,FnOk P Γ g (Γ.ent g).sg (cal g)) (n:Nat) {g:Nat} {fn:Func} (hf:P.funcs[g]? = some fn) (hname:(fn.name == "runtime.NumGoroutine")=false) (sg:Sig):FnOk P Γ g sg (runFn Γ fn.ntmps cal H n fn sg):=by
 intro x y hrun hsg θ w ι S Vs base hθ hι hSlt hG hVs hObs hOwn hInj hbase
 unfold runFn at hrun
 split at hrun
 ·cases hrun
 ·rename_i c hc
  obtain ⟨hg,hrun⟩:=bif_some hrun
  simp only[nbeq,Bool.and_eq_true,decide_eq_true_eq,true_and] at hg
  obtain ⟨_,hle⟩:=hg
  have hle:=Nat.le_of_ble_eq_true hle
  have hlen:Vs.length=sg.ps.length:=hVs.length.symm.trans (parsSV_len sg.ps 0 x)
  let M0:Nat→Prop:=fun b=>∃n o,look (parsOb 0 sg.ps x) n=some o∧blk (ι n)=some b
  have B:Base P Γ θ w M0 S:=⟨hT,hG,fun b hb ⟨n,o,h1,h2⟩=>hOwn n o b h1 h2 hb,hSlt,hθ,hM,hQ,hH,hN⟩
  have W:RepW θ fn.ntmps w M0 S ι { tm:=zipN 0 (parsSV 0 sg.ps x),ob:=parsOb 0 sg.ps x } ι S { tmps:=⟨Vs⟩++Array.replicate (fn.ntmps-(⟨Vs⟩:Array Value).size) undef,defers:=[] } w:=by
   refine ⟨fun _ h=>h,fun _ h=>.inl h,hSlt,fun t v hv=>?_,hObs,fun n o b h1 h2=>⟨hOwn n o b h1 h2,.inl ⟨n,o,h1,h2⟩⟩,hInj,⟨rfl,rfl,rfl,Nat.le_refl _,fun _ _ _=>rfl⟩,?_,hι,fun _ _=>rfl,rfl⟩
   ·have hv:look (zipN 0 (parsSV 0 sg.ps x)) t=some v:=hv
    rw[look_zipN,if_pos (Nat.zero_le _),Nat.sub_zero] at hv
    obtain ⟨V,h1,h2⟩:=hVs.at hv
    have hlt:t<Vs.length:=(List.getElem?_eq_some_iff.1 h1).1
    have:(⟨Vs⟩++Array.replicate (fn.ntmps-(⟨Vs⟩:Array Value).size) undef:Array Value).getD t undef=V:=by
     rw[Array.getD_eq_getD_getElem?,Array.getElem?_append_left (by simpa using hlt)]
     have:(⟨Vs⟩:Array Value)[t]? = some V:=by simpa using h1
     rw[this];rfl
    rw[this];exact h2
   ·simp;omega
  have hname':¬fn.name = "runtime.NumGoroutine" := by simpa using hname
  refine .inl ⟨by simp[callFunc,go_sem,hf,hname',hc],?_⟩
  refine calls_of_wp hf hc (exec_ok B hC n c hrun W fun e r' ι' S' a' w' h W' p'=>?_)
  have fin:resOf Γ r' (resOb r' sg.rs) sg.rs fn.results.toList (ioTys sg.ps) (ioOf r' 0 sg.ps) []=some y→a'.defers=[]∧∃v,(results fn a'.tmps).run P w'=.ok v w'∧(∃V ι' S',Ending.returned v=.returned V ∧
   (∀b,S b→S' b)∧(∀b,S' b→S b∨w.heap.size≤b)∧(∀b,S' b→b<w'.heap.size)∧(∀n,(ι' n).oneCell'=true) ∧
   (∀n o,look (parsOb 0 sg.ps x) n=some o→ι' n=ι n) ∧
   Keep (fun b=>∃n o,look (parsOb 0 sg.ps x) n=some o∧blk (ι n)=some b) w w' ∧
   RSV ι' θ S' w' (oneOf (resTV sg.rs (ioTys sg.ps) y base).1) V ∧
   (∀n o,look (resTV sg.rs (ioTys sg.ps) y base).2.1 n=some o→ROb ι' θ S' w' n o∧∀b,blk (ι' n)=some b→¬S' b∧w.heap.size≤b) ∧
   (∀n m o o' b,look (resTV sg.rs (ioTys sg.ps) y base).2.1 n=some o→look (resTV sg.rs (ioTys sg.ps) y base).2.1 m=some o'→blk (ι' n)=some b→blk (ι' m)=some b→n=m) ∧
   (∀n o,look (ioObs 0 sg.ps (resTV sg.rs (ioTys sg.ps) y base).2.2) n=some o→ROb ι' θ S' w' n o)):=by
   intro h
   let S2:Nat→Prop:=fun b=>S' b∨(anyOwn sg.rs=false∧∃m o,m<parBase∧r'.obj m=some o∧blk (ι' m)=some b)
   have hs2:∀b,S' b→S2 b:=fun b=>.inl
   obtain ⟨Vals,Ls,g0,g1,g2,g3,g4,g5,g6⟩:=resOf_ok hT (S':=S2) (ob:=resOb r' sg.rs) hθ W' hs2 (fun m e xs hm=>by
    unfold resOb at hm
    cases ho:anyOwn sg.rs with
    | true=>rw[ho] at hm;cases hm
    | false =>
     rw[ho] at hm
     simp only[cond_false,lowOb] at hm
     cases hlt:Nat.blt m parBase with
     | false=>rw[hlt] at hm;cases hm
     | true =>
      rw[hlt] at hm
      exact row_imm hs2 (W'.obs m _ hm) (fun b hb=>.inr ⟨ho,m,_,by simpa using hlt,hm,hb⟩)) h
   simp only[List.nil_append] at g3 g5
   obtain ⟨i1,i2⟩:=ioOf_ok W' (g5 base)
   have i2:=i2 x
   have hM:∀m o b,r'.obj m=some o→blk (ι' m)=some b→M0 b→∃o',look (parsOb 0 sg.ps x) m=some o':=fun m o b hm hb ⟨n,o1,h1,h2⟩=>by
    obtain ⟨hp,hk⟩:=i2 n o1 h1
    have hιn:ι' n=ι n:=W'.fx n hp
    have hex:∃o',r'.obj n=some o':=hk.elim (fun ⟨cs,h⟩=>⟨_,h⟩) (fun h=>h.2)
    obtain ⟨o',ho'⟩:=hex
    have:m=n:=W'.inj m n o o' b hm ho' hb (by rw[hιn];exact h2)
    subst this
    exact ⟨o1,h1⟩
   have hSM:∀b,S' b→S b∨w.heap.size≤b:=fun b hb=>by
    rcases W'.sn b hb with h | ⟨n,o1,h1,h2⟩ | h
    ·exact .inl h
    ·obtain ⟨hp,hk⟩:=i2 n o1 h1
     have hex:∃o',r'.obj n=some o':=hk.elim (fun ⟨cs,h⟩=>⟨_,h⟩) (fun h=>h.2)
     obtain ⟨o',ho'⟩:=hex
     exact absurd hb (W'.own n o' b ho' (by rw[W'.fx n hp];exact h2)).1
    ·exact .inr h
   let asg:=asgOf base Ls
   have hak:keys asg=upFrom base Ls.length:=asgOf_keys _ _
   let ι2:Nat→Value:=fun n=>match look asg n with | some L=>valOf ι' L | none=>ι' n
   have hnd:(keys asg).Nodup:=by
    rw[hak]
    have:∀k m,(upFrom m k).Nodup:=fun k=>by
     induction k with
     | zero=>intro m;simp[upFrom]
     | succ k ih=>intro m;simp only[upFrom,List.nodup_cons,ih,and_true,mem_upFrom];omega
    exact this _ _
   have hι2:∀i L,Ls[i]? = some L→ι2 (base+i)=valOf ι' L:=fun i L hL=>by
    have:=look_of_mem hnd (asgOf_get Ls base i L hL)
    simp only[ι2,asg,this]
   have hι2n:∀n,parBase≤n→ι2 n=ι' n:=fun n hn=>by
    have:look asg n=none:=look_none (by rw[hak,mem_upFrom];have:=g1 base;omega)
    simp only[ι2,this]
   obtain ⟨k1,k2⟩:=g6 base ι2 hι2
   have hres:∀n o b,look (resTV sg.rs (ioTys sg.ps) y base).2.1 n=some o→blk (ι2 n)=some b→∃i m,n=base+i∧Ls[i]? = some (some m)∧ι2 n=ι' m∧m∈Ls.filterMap id:=fun n o b hn hb=>by
    have hk:=look_keys hn
    rw[g2 base,mem_upFrom] at hk
    have hi:n-base<Ls.length:=by omega
    have hL:=List.getElem?_eq_getElem hi
    have hv:=hι2 _ _ hL
    rw[show base+(n-base)=n by omega] at hv
    cases hq:Ls[n-base] with
    | none=>rw[hv,hq] at hb;cases hb
    | some m=>exact ⟨n-base,m,by omega,by rw[hL,hq],by rw[hv,hq];rfl,List.mem_filterMap.2 ⟨some m,by rw[←hq];exact List.getElem_mem hi,rfl⟩⟩
   refine ⟨W'.dfs,_,run_results g0,_,ι2,S2,rfl,fun b hb=>.inl (W'.s0 b hb),fun b hb=>?_,fun b hb=>?_,fun n=>?_,fun n o hn=>?_,W'.keep,oneOf_ok k1,fun n o hn=>⟨k2 n o hn,fun b hb=>?_⟩,fun n m o o' b hn hm hb hb'=>?_,fun n o hn=>?_⟩
   ·rcases hb with hb | ⟨_,m,o,hm,ho,hb⟩
    ·exact hSM b hb
    ·rcases (W'.own m o b ho hb).2 with h | h
     ·obtain ⟨o',ho'⟩:=hM m o b ho hb h
      have:=(i2 m o' ho').1
      omega
     ·exact .inr h
   ·rcases hb with hb | ⟨_,m,o,hm,ho,hb⟩
    ·exact W'.sb b hb
    ·exact W'.blk_lt ho hb
   ·simp only[ι2]
    split
    ·rename_i L _
     cases L with
     | none=>rfl
     | some m=>exact W'.one m
    ·exact W'.one n
   ·have hp:=(i2 n o hn).1
    rw[hι2n n hp]
    exact W'.fx n hp
   ·obtain ⟨i,m,rfl,hL,he,hmem⟩:=hres n o b hn hb
    rw[he] at hb
    obtain ⟨om,hm,hbx⟩:∃om,r'.obj m=some om∧((∃cs,om=.box cs)→m<parBase):=by
     rcases g4 m hmem with ⟨e,xs,hm⟩ | ⟨hlt,cs,hm⟩
     ·exact ⟨_,hm,fun ⟨cs,h⟩=>by cases h⟩
     ·exact ⟨_,hm,fun _=>hlt⟩
    have hown:=W'.own m _ b hm hb
    constructor
    ·rintro (h | ⟨ho,_⟩)
     ·exact hown.1 h
     ·have h0:=resTV_none (l:=ioTys sg.ps) (y:=y) (base:=base) ho
      rw[g1 base] at h0
      have:=(List.getElem?_eq_some_iff.1 hL).1
      omega
    ·rcases hown.2 with h | h
     ·obtain ⟨o',ho'⟩:=hM m _ b hm hb h
      rcases (i2 m o' ho').2 with ⟨cs,hcs⟩ | ⟨hno,_⟩
      ·rw[hm] at hcs;cases hcs
       have:=hbx ⟨_,rfl⟩
       have:=(i2 m o' ho').1
       omega
      ·exact absurd hmem hno
     ·exact h
   ·obtain ⟨i,m1,rfl,hL,he,hmem⟩:=hres n o b hn hb
    obtain ⟨j,m2,rfl,hL',he',hmem'⟩:=hres m o' b hm hb'
    rw[he] at hb
    rw[he'] at hb'
    obtain ⟨o1,hm1⟩:∃om,r'.obj m1=some om:=(g4 m1 hmem).elim (fun ⟨_,_,h⟩=>⟨_,h⟩) (fun ⟨_,_,h⟩=>⟨_,h⟩)
    obtain ⟨o2,hm2⟩:∃om,r'.obj m2=some om:=(g4 m2 hmem').elim (fun ⟨_,_,h⟩=>⟨_,h⟩) (fun ⟨_,_,h⟩=>⟨_,h⟩)
    have hmm:m1=m2:=W'.inj m1 m2 _ _ b hm1 hm2 hb hb'
    subst hmm
    have:=filterMap_inj (f:=(fun p:Nat×Option Nat=>p.2)) (l:=asg) (by rw[show asg.filterMap (·.2)=Ls.filterMap id from asgOf_vals Ls base];exact g3) (asgOf_get Ls base i _ hL) (asgOf_get Ls base j _ hL') rfl rfl
    exact (Prod.mk.inj this).1
   ·obtain ⟨c1,c2,hp⟩:=i1 n o hn
    exact ROb.mono hs2 (fun _ _=>rfl) (Nat.le_refl _) (hι2n n hp) (fun m hm=>by rw[c2] at hm;cases hm) (fun _ _=>rfl) c1
  cases e with
  | exit i=>cases h
  | normal=>exact fin h
  | ret=>exact fin h
end Go.VM
namespace Go.VM
open Go.RowKit
structure EntOk (P:Program) (Γ:Ctx) (g:Nat) (e:Ent):Prop where
 fn:e.ext=none→P.funcs[g]? = some e.fn∧(e.fn.name == "runtime.NumGoroutine")=false
 ext:∀F,e.ext=some F→FnOk P Γ g e.sg F
def EntsOk (P:Program) (Γ:Ctx):Prop:=∀g e,look Γ.ents g=some e→EntOk P Γ g e
variable {P:Program} {Γ:Ctx}
theorem ent_some {g:Nat} {e:Ent} (h:look Γ.ents g=some e):Γ.ent g=e:=by simp[Ctx.ent,h]
theorem ent_none {g:Nat} (h:look Γ.ents g=none):Γ.ent g=default:=by simp[Ctx.ent,h]
theorem runFn_none {N n:Nat} {cal:Cal Γ} {H:List (Nat×List Nat×List LV)} {fn:Func} {sg:Sig} (h:fn.body=none) (x:sg.inTy.den):runFn Γ N cal H n fn sg x=none:=by
 unfold runFn;rw[h]
theorem enOk_of (hE:EntsOk P Γ):EnOk P Γ:=fun h hp args W=>by
 unfold isPrg at hp
 split at hp
 ·rename_i e he
  simp only[Bool.and_eq_true,Option.isNone_iff_eq_none] at hp
  obtain ⟨h1,h2⟩:=(hE h e he).fn hp.1
  obtain ⟨c,hc⟩:=Option.isSome_iff_exists.1 hp.2
  have hname':¬e.fn.name = "runtime.NumGoroutine" := by simpa using h2
  simp[callFunc,go_sem,h1,hname',hc]
 ·cases hp
theorem call_allH (hM:P.follows .mixedOrders=true) (hT:TyOk P Γ.tys) (hQ:EqsOk P Γ) (hE:EntsOk P Γ) (hH:∀g kd,look Γ.ho g=some kd→HoOk P g kd):∀(n g:Nat),FnOk P Γ g (Γ.ent g).sg (call Γ n g)
 | 0,g=>fun x y h=>by cases h
 | n+1,g=>by
  have ih:=call_allH hM hT hQ hE hH n
  have key:∀e:Ent,Γ.ent g=e→(look Γ.ents g=some e∨e=default)→FnOk P Γ g (Γ.ent g).sg (call Γ (n+1) g):=fun e he hl=>by
   subst he
   intro x y h
   have h:(match (Γ.ent g).ext with
    | some F=>F x
    | none=>runFn Γ (Γ.ent g).fn.ntmps (call Γ n) (Γ.ent g).hints n (Γ.ent g).fn (Γ.ent g).sg x)=some y:=h
   rcases hl with hl | hl
   ·have hk:=hE g _ hl
    cases hx:(Γ.ent g).ext with
    | some F =>
     rw[hx] at h
     exact hk.ext F hx x y h
    | none =>
     rw[hx] at h
     obtain ⟨h1,h2⟩:=hk.fn hx
     exact fn_ok hM hT hQ hH (enOk_of hE) ih n h1 h2 (Γ.ent g).sg x y h
   ·exfalso
    have h1:(Γ.ent g).ext=none:=by rw[hl];rfl
    have h2:(Γ.ent g).fn.body=none:=by rw[hl];rfl
    rw[h1] at h
    simp only[runFn_none h2] at h
    cases h
  cases hl:look Γ.ents g with
  | some e=>exact key e (ent_some hl) (.inl hl)
  | none=>exact key default (ent_none hl) (.inr rfl)
theorem call_all (hM:P.follows .mixedOrders=true) (hT:TyOk P Γ.tys) (hQ:EqsOk P Γ) (hE:EntsOk P Γ) (hH:Γ.ho=[]:=by rfl) (n g:Nat):FnOk P Γ g (Γ.ent g).sg (call Γ n g) :=
 call_allH hM hT hQ hE (fun g kd h=>by rw[hH] at h;cases h) n g
end Go.VM
namespace Go.VM
open Go.RowKit
variable {P:Program} {Γ:Ctx}
def zV:CV→Value→Bool
 | .int k n,.int k' n'=>decide (k=k')&&decide (n=n')
 | .bool b,.bool b'=>b==b'
 | .str [],.string ⟨⟨[]⟩⟩=>true
 | .val (.slice none 0 0),.slice none 0 0=>true
 | .err true,.nilIface=>true
 | _,_=>false
def zAll:List CV→List Value→Bool
 | [],[]=>true
 | c :: cs,v :: vs=>zV c v&&zAll cs vs
 | _,_=>false
def chkF (tys:List (Nat×Ty)):Ty→Nat→List Field→Bool
 | .pair a b,m,f :: fs=>Nat.beq f.offset m&&(match look tys f.type with | some a'=>decide (a'=a) | none=>false)&&chkF tys b (m+a.size) fs
 | .pair _ _,_,[]=>false
 | _,_,_=>true
def chkP:Ty→Nat→List (Nat×Nat)→Bool
 | .pair a b,m,p :: ps=>Nat.beq p.1 m&&Nat.beq p.2 a.size&&chkP b (m+a.size) ps
 | .pair _ _,_,[]=>false
 | _,_,_=>true
def chkD (P:Program) (tys:List (Nat×Ty)):TypeDesc→Ty→Bool
 | .int k,.int k'=>decide (k=k')
 | .bool,.bool=>true
 | .string,.str=>true
 | .interface _,.err=>true
 | .slice te,.lst e=>match look tys te with
  | some e'=>decide (e'=e)
  | none=>false
 | .struct fs,τ=>τ.isS&&chkF tys τ 0 fs.toList&&(match fs.toList.mapM (fun f=>(P.info? f.type).map fun i=>(f.offset,i.size)) with
  | some pl=>chkP τ 0 pl
  | none=>false)
 | _,_=>false
def chkT (P:Program) (tys:List (Nat×Ty)) (t:Nat) (τ:Ty):Bool :=
 match P.underlying t,P.info? t with
 | some d,some i=>chkD P tys d τ&&Nat.beq i.size τ.size&&Nat.ble i.bytes 1024&&(match i.zero with
  | some z=>zAll (zeroCells τ) z.cells.toList
  | none=>false)
 | _,_=>false
def chkTys (P:Program) (tys:List (Nat×Ty)):List (Nat×Ty)→Bool
 | []=>true
 | (t,τ) :: l=>chkT P tys t τ&&chkTys P tys l
theorem zV_ok {ι θ:Nat→Value} {S:Nat→Prop} {w:World} {c:CV} {v:Value} (h:zV c v=true):RCV ι θ S w c v:=by
 unfold zV at h
 split at h
 ·simp only[Bool.and_eq_true,decide_eq_true_eq] at h;rw[h.1,h.2];rfl
 ·rw[eq_of_beq h];rfl
 ·rfl
 ·rfl
 ·exact .inl ⟨rfl,rfl⟩
 ·cases h
theorem zAll_ok {ι θ:Nat→Value} {S:Nat→Prop} {w:World}:∀ {cs:List CV} {vs:List Value},zAll cs vs=true→All2 (RCV ι θ S w) cs vs
 | [],[],_=>.nil
 | c :: cs,v :: vs,h=>by
  simp only[zAll,Bool.and_eq_true] at h
  exact .cons (zV_ok h.1) (zAll_ok h.2)
 | [],_ :: _,h=>by cases h
 | _ :: _,[],h=>by cases h
theorem chkF_ok {tys:List (Nat×Ty)}:∀ {t:Ty} {m:Nat} {fs:List Field},chkF tys t m fs=true→∀i off σ,t.field i=some (off,σ)→∃f,fs[i]? = some f∧f.offset=m+off∧look tys f.type=some σ
 | .pair a b,m,f :: fs,h,i,off,σ,hf=>by
  simp only[chkF,Bool.and_eq_true] at h
  obtain ⟨⟨h1,h2⟩,h3⟩:=h
  cases i with
  | zero =>
   simp only[Ty.field,Option.some.injEq,Prod.mk.injEq] at hf
   obtain ⟨rfl,rfl⟩:=hf
   refine ⟨f,rfl,by rw[Nat.eq_of_beq_eq_true h1];omega,?_⟩
   split at h2
   ·rename_i a' ha;rw[ha,of_decide_eq_true h2]
   ·cases h2
  | succ i =>
   simp only[Ty.field,Option.map_eq_some_iff] at hf
   obtain ⟨p,hp,he⟩:=hf
   cases he
   obtain ⟨g,g1,g2,g3⟩:=chkF_ok h3 i p.1 p.2 hp
   exact ⟨g,by simpa using g1,by rw[g2];omega,g3⟩
 | .pair a b,m,[],h,_,_,_,_=>by cases h
 | .unit,m,fs,_,i,off,σ,hf=>by cases i <;> simp[Ty.field] at hf
 | .int _,m,fs,_,i,off,σ,hf=>by cases i <;> simp[Ty.field] at hf
 | .bool,m,fs,_,i,off,σ,hf=>by cases i <;> simp[Ty.field] at hf
 | .str,m,fs,_,i,off,σ,hf=>by cases i <;> simp[Ty.field] at hf
 | .lst _,m,fs,_,i,off,σ,hf=>by cases i <;> simp[Ty.field] at hf
 | .opq,m,fs,_,i,off,σ,hf=>by cases i <;> simp[Ty.field] at hf
 | .adr _,m,fs,_,i,off,σ,hf=>by cases i <;> simp[Ty.field] at hf
 | .err,m,fs,_,i,off,σ,hf=>by cases i <;> simp[Ty.field] at hf
 | .rd _,m,fs,_,i,off,σ,hf=>by cases i <;> simp[Ty.field] at hf
theorem chkP_ok:∀ {t:Ty} {m:Nat} {ps:List (Nat×Nat)},chkP t m ps=true→∀i off σ,t.field i=some (off,σ)→ps[i]? = some (m+off,σ.size)
 | .pair a b,m,p :: ps,h,i,off,σ,hf=>by
  simp only[chkP,Bool.and_eq_true] at h
  obtain ⟨⟨h1,h2⟩,h3⟩:=h
  cases i with
  | zero =>
   simp only[Ty.field,Option.some.injEq,Prod.mk.injEq] at hf
   obtain ⟨rfl,rfl⟩:=hf
   obtain ⟨p1,p2⟩:=p
   simp only at h1 h2
   rw[Nat.eq_of_beq_eq_true h1,Nat.eq_of_beq_eq_true h2]
   rfl
  | succ i =>
   simp only[Ty.field,Option.map_eq_some_iff] at hf
   obtain ⟨q,hp,he⟩:=hf
   cases he
   have:=chkP_ok h3 i q.1 q.2 hp
   simp only[List.getElem?_cons_succ,this]
   congr 2
   omega
 | .pair a b,m,[],h,_,_,_,_=>by cases h
 | .unit,m,fs,_,i,off,σ,hf=>by cases i <;> simp[Ty.field] at hf
 | .int _,m,fs,_,i,off,σ,hf=>by cases i <;> simp[Ty.field] at hf
 | .bool,m,fs,_,i,off,σ,hf=>by cases i <;> simp[Ty.field] at hf
 | .str,m,fs,_,i,off,σ,hf=>by cases i <;> simp[Ty.field] at hf
 | .lst _,m,fs,_,i,off,σ,hf=>by cases i <;> simp[Ty.field] at hf
 | .opq,m,fs,_,i,off,σ,hf=>by cases i <;> simp[Ty.field] at hf
 | .adr _,m,fs,_,i,off,σ,hf=>by cases i <;> simp[Ty.field] at hf
 | .err,m,fs,_,i,off,σ,hf=>by cases i <;> simp[Ty.field] at hf
 | .rd _,m,fs,_,i,off,σ,hf=>by cases i <;> simp[Ty.field] at hf
theorem chkD_ok {tys:List (Nat×Ty)} {d:TypeDesc} {τ:Ty} (h:chkD P tys d τ=true):TyD P tys τ d:=by
 unfold chkD at h
 split at h
 ·rw[of_decide_eq_true h];exact .int _
 ·exact .bool
 ·exact .str
 ·exact .err _
 ·rename_i te e
  split at h
  ·rename_i e' he;exact .lst e te (by rw[he,of_decide_eq_true h])
  ·cases h
 ·rename_i fs
  simp only[Bool.and_eq_true] at h
  obtain ⟨⟨h1,h2⟩,h3⟩:=h
  split at h3
  ·rename_i pl hpl
   refine .struct τ fs pl h1 (fun i off σ hf=>?_) hpl (fun i off σ hf=>?_)
   ·obtain ⟨f,f1,f2,f3⟩:=chkF_ok h2 i off σ hf
    exact ⟨f,by simpa using f1,by omega,f3⟩
   ·have:=chkP_ok h3 i off σ hf
    simpa using this
  ·cases h3
 ·cases h
theorem chkT_ok {tys:List (Nat×Ty)} {t:Nat} {τ:Ty} (h:chkT P tys t τ=true):TyF P tys t τ:=by
 unfold chkT at h
 split at h
 ·rename_i d i hd hi
  simp only[Bool.and_eq_true] at h
  obtain ⟨⟨⟨h1,h2⟩,h3⟩,h4⟩:=h
  split at h4
  ·rename_i z hz
   exact ⟨⟨d,hd,chkD_ok h1⟩,⟨i,z,z.cells.toList,hi,Nat.eq_of_beq_eq_true h2,Nat.le_of_ble_eq_true h3,hz,by simp,zAll_ok h4⟩⟩
  ·cases h4
 ·cases h
theorem chkTys_ok {tys:List (Nat×Ty)}:∀ {l:List (Nat×Ty)},chkTys P tys l=true→∀t τ,look l t=some τ→TyF P tys t τ
 | [],_,t,τ,h=>by cases h
 | (s,σ) :: l,h,t,τ,hl=>by
  simp only[chkTys,Bool.and_eq_true] at h
  rw[look_cons] at hl
  split at hl
  ·rename_i e;subst e;cases hl;exact chkT_ok h.1
  ·exact chkTys_ok h.2 t τ hl
theorem tyOk {tys:List (Nat×Ty)} (h:chkTys P tys tys=true):TyOk P tys:=fun t τ hl=>chkTys_ok h t τ hl
def chkEqs (P:Program) (tys:List (Nat×Ty)):List (Nat×Ty)→Bool
 | []=>true
 | (t,τ) :: l=>chkEq P tys 8 t τ && !P.eqGuardType P.depth t&&chkEqs P tys l
theorem chkEqs_ok {tys:List (Nat×Ty)}:∀ {l:List (Nat×Ty)},chkEqs P tys l=true→∀t τ,look l t=some τ→chkEq P tys 8 t τ=true∧P.eqGuardType P.depth t=false
 | [],_,t,τ,h=>by cases h
 | (s,σ) :: l,h,t,τ,hl=>by
  simp only[chkEqs,Bool.and_eq_true,Bool.not_eq_true'] at h
  rw[look_cons] at hl
  split at hl
  ·rename_i e;subst e;cases hl;exact h.1
  ·exact chkEqs_ok h.2 t τ hl
theorem eqsOk (h:chkEqs P Γ.tys Γ.eqs=true):EqsOk P Γ:=fun t τ hl=>chkEqs_ok h t τ hl
def EntsOn (P:Program) (Γ:Ctx) (l:List (Nat×Ent)):Prop:=∀g e,look l g=some e→EntOk P Γ g e
theorem EntsOn.nil:EntsOn P Γ []:=fun g e h=>by cases h
theorem EntsOn.cons {g:Nat} {e:Ent} {l:List (Nat×Ent)} (h:EntOk P Γ g e) (hl:EntsOn P Γ l):EntsOn P Γ ((g,e) :: l):=fun n e' h'=>by
 rw[look_cons] at h'
 split at h'
 ·rename_i e0;subst e0;cases h';exact h
 ·exact hl n e' h'
theorem EntOk.fun {g:Nat} {sg:Sig} {fn:Func} {H:List (Nat×List Nat×List LV)} (h:P.funcs[g]? = some fn) (hn:(fn.name == "runtime.NumGoroutine")=false):EntOk P Γ g ⟨sg,none,fn,H⟩ :=
 ⟨fun _=>⟨h,hn⟩,fun F h=>by cases h⟩
end Go.VM
