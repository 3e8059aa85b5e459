/- The executor is sound: whatever it answers is what the machine does. -/
import Derived.Test.YtpfnljkjjnnliaaGreatDoorR1
local macro "bo%" : term => `(by omega)
set_option linter.unusedVariables false
set_option linter.unusedSimpArgs false
namespace Go.VM
open Go.RowKit
variable {P:Program} {Γ:Ctx} {θ:Nat→Value} {N:Nat} {w0:World} {M0 S0:Nat→Prop} {ι0:Nat→Value} {r:Env} {ι:Nat→Value} {S:Nat→Prop} {a:Act} {w:World} {R:Type}
 {o:Oper} {K':Act→World→Prop} {Q:Exit→Act→World→Prop} {k:Env→Option R} {q:R}
structure RowL (θ:Nat→Value) (S:Nat→Prop) (w:World) (e:Ty) (xs:List e.den) (cs:List Value):Prop where
 len:cs.length=xs.length*e.size
 el:∀i x,xs[i]? = some x→∃ws,RepC θ S w e x ws∧∀j v,ws[j]? = some v→cs[i*e.size+j]? = some v
 one:∀v,v∈cs→v.oneCell'=true
theorem RowL.nil (e:Ty):RowL θ S w e [] []:=⟨by simp,fun i x h=>by simp at h,fun v h=>by cases h⟩
theorem RowL.append {e:Ty} {xs ys:List e.den} {cs ds:List Value} (h:RowL θ S w e xs cs) (g:RowL θ S w e ys ds):RowL θ S w e (xs++ys) (cs++ds):=by
 refine ⟨by rw[List.length_append,List.length_append,h.len,g.len,Nat.add_mul],fun i x hx=>?_,fun v hv=>?_⟩
 ·by_cases hi:i<xs.length
  ·rw[List.getElem?_append_left hi] at hx
   obtain ⟨ws,c1,c2⟩:=h.el i x hx
   exact ⟨ws,c1,fun j v hv=>by
    have:=c2 j v hv
    rw[List.getElem?_append_left (List.getElem?_eq_some_iff.1 this).1];exact this⟩
  ·rw[List.getElem?_append_right bo%] at hx
   obtain ⟨ws,c1,c2⟩:=g.el _ x hx
   exact ⟨ws,c1,fun j v hv=>by
    have:=c2 j v hv
    have hm:i*e.size=xs.length*e.size+(i-xs.length)*e.size:=by rw[←Nat.add_mul];congr 1;omega
    rw[List.getElem?_append_right (by rw[h.len];omega),h.len,←this];congr 1;omega⟩
 ·rcases List.mem_append.1 hv with h1 | h1
  ·exact h.one v h1
  ·exact g.one v h1
theorem RowL.cons {e:Ty} {x:e.den} {xs:List e.den} {ws cs:List Value} (ht:∀n,(θ n).oneCell'=true) (h:RepC θ S w e x ws) (g:RowL θ S w e xs cs):RowL θ S w e (x :: xs) (ws++cs):=by
 have h1:RowL θ S w e [x] ws:=⟨by simp[h.len],fun i y hy=>by
  cases i with
  | zero=>cases hy;exact ⟨ws,h,fun j v hv=>by simpa using hv⟩
  | succ i=>simp at hy,h.one ht⟩
 exact h1.append g
theorem flat_row (ht:∀n,(θ n).oneCell'=true) {e:Ty} {b:Nat}:∀ {xs:List e.den} {off:Nat},(∀i x,xs[i]? = some x→∃ws,RepC θ S w e x ws∧CellsAt w b (off+i*e.size) ws) →
  ∃cs,RowL θ S w e xs cs∧CellsAt w b off cs
 | [],off,_=>⟨[],RowL.nil e,fun j v h=>by simp at h⟩
 | x :: xs,off,h=>by
  obtain ⟨ws,c1,c2⟩:=h 0 x rfl
  obtain ⟨cs,g1,g2⟩:=flat_row ht (xs:=xs) (off:=off+e.size) (fun i y hy=>by
   obtain ⟨us,d1,d2⟩:=h (i+1) y (by simpa using hy)
   refine ⟨us,d1,?_⟩
   rw[Nat.add_mul,Nat.one_mul] at d2
   rwa [show off+e.size+i*e.size=off+(i*e.size+e.size) by omega])
  refine ⟨ws++cs,RowL.cons ht c1 g1,fun j v hv=>?_⟩
  by_cases hj:j<ws.length
  ·rw[List.getElem?_append_left hj] at hv
   have:=c2 j v hv
   simpa using this
  ·rw[List.getElem?_append_right bo%,c1.len] at hv
   have:=g2 _ v hv
   rw[c1.len] at hj
   rwa [show off+e.size+(j-e.size)=off+j by omega] at this
theorem loadCells_at {b off:Nat} {cs:List Value} (h:CellsAt w b off cs):(loadCells ⟨b,off,none⟩ cs.length).run P w=.ok ⟨cs⟩ w :=
 run_loadCells_list w _ cs fun j v hv=>by rw[Addr.add_lit];exact h j v hv
structure Src (P:Program) (θ:Nat→Value) (S:Nat→Prop) (w:World) (X:Value) (e:Ty) (ys:List e.den) (news:List Value):Prop where
 len:∀w1,(Builtin.lenOf X).run P w1=.ok ys.length w1
 cells:∀w1:World,(∀b o,w1.cell? ⟨b,o,none⟩=w.cell? ⟨b,o,none⟩)→(Builtin.firstCells e.size ys.length X).run P w1=.ok ⟨news⟩ w1
 row:RowL θ S w e ys news
theorem list_row (B:Base P Γ θ w0 M0 S0) (W:RepW θ N w0 M0 S0 ι0 r ι S a w) {e:Ty} {c:CV} {V:Value} {xs:List e.den} (h:listOf r.obj e c=some xs) (hc:RCV ι θ S w c V) :
  ∃p cap cs,V=.slice p xs.length cap∧xs.length≤cap∧RowL θ S w e xs cs∧(xs=[]∨∃b off,p=some ⟨b,off,none⟩∧CellsAt w b off cs):=by
 have imm:∀ {xs:List e.den} {V:Value},RepC θ S w (.lst e) xs [V]→∃p cap cs,V=.slice p xs.length cap∧xs.length≤cap∧RowL θ S w e xs cs∧(xs=[]∨∃b off,p=some ⟨b,off,none⟩∧CellsAt w b off cs):=by
  rintro xs V ⟨p,cap,e1,e2,e3⟩
  have e1:=(List.cons.inj e1).1
  rcases e3 with rfl | ⟨b,off,rfl,_,hel⟩
  ·exact ⟨p,cap,[],e1,e2,RowL.nil e,.inl rfl⟩
  ·obtain ⟨cs,g1,g2⟩:=flat_row B.one hel
   exact ⟨_,cap,cs,e1,e2,g1,.inr ⟨b,off,rfl,g2⟩⟩
 cases c <;> simp only[listOf] at h <;> (try cases h;done)
 ·rename_i v
  obtain ⟨e1,h⟩:=bif_some h
  cases h
  exact ⟨none,0,[],by rw[show V=v from hc,isNil_eq e1];rfl,Nat.le_refl _,RowL.nil e,.inl rfl⟩
 ·rename_i n
  split at h
  ·rename_i e' ys hn
   split at h
   ·rename_i he
    subst he
    cases h
    obtain ⟨h0,p,cap,h1,h2,h3⟩:=W.obs n _ hn
    have hV:V=.slice p ys.length cap:=(show V=ι n from hc).trans h1
    by_cases hc0:cap=0
    ·have:ys=[]:=List.eq_nil_of_length_eq_zero bo%
     subst this
     exact ⟨p,cap,[],hV,h2,RowL.nil e',.inl rfl⟩
    ·obtain ⟨b,off,rfl,_,hel⟩:=h3.resolve_left hc0
     obtain ⟨cs,g1,g2⟩:=flat_row B.one hel
     exact ⟨_,cap,cs,hV,h2,g1,.inr ⟨b,off,rfl,g2⟩⟩
   ·cases h
  ·cases h
 ·rename_i e' ys
  split at h
  ·rename_i he
   subst he
   cases h
   exact imm hc
  ·cases h
theorem cellsAt_same {w1:World} (h:∀b o,w1.cell? ⟨b,o,none⟩=w.cell? ⟨b,o,none⟩) {b off:Nat} {cs:List Value} (c:CellsAt w b off cs):CellsAt w1 b off cs :=
 fun j v hv=>by rw[h];exact c j v hv
theorem src_list (B:Base P Γ θ w0 M0 S0) (W:RepW θ N w0 M0 S0 ι0 r ι S a w) {e:Ty} {c:CV} {V:Value} {xs:List e.den} (h:listOf r.obj e c=some xs) (hc:RCV ι θ S w c V):∃news,Src P θ S w V e xs news:=by
 obtain ⟨p,cap,cs,rfl,h2,h3,h4⟩:=list_row B W h hc
 refine ⟨cs,fun w1=>by simp[Builtin.lenOf],fun w1 hw=>?_,h3⟩
 rcases h4 with rfl | ⟨b,off,rfl,h4⟩
 ·have:cs=[]:=List.eq_nil_of_length_eq_zero (by simpa using h3.len)
  subst this
  cases p <;> simp[Builtin.firstCells,loadCells,loadCellsFrom]
 ·have:=loadCells_at (P:=P) (cellsAt_same hw h4)
  rw[h3.len] at this
  simpa [Builtin.firstCells] using this
theorem bytesOf_row (l:Bs):RowL θ S w (.int .u8) (bytesOf l) (l.map fun c=>Value.int .u8 (c.toNat:Int)):=by
 refine ⟨by simp[bytesOf,Ty.size],fun i x hx=>?_,fun v hv=>?_⟩
 ·simp only[bytesOf,List.getElem?_map,Option.map_eq_some_iff] at hx
  obtain ⟨c,h1,rfl⟩:=hx
  refine ⟨_,rfl,fun j v hv=>?_⟩
  cases j with
  | zero=>cases hv;simp[Ty.size,h1]
  | succ j=>simp at hv
 ·obtain ⟨c,_,rfl⟩:=List.mem_map.1 hv;rfl
theorem src_ok (B:Base P Γ θ w0 M0 S0) (W:RepW θ N w0 M0 S0 ι0 r ι S a w) {e:Ty} {t:Option Ty} {c:CV} {V:Value} {xs:List e.den} (h:srcOf r e t c=some xs) (hc:RCV ι θ S w c V):∃news,Src P θ S w V e xs news:=by
 unfold srcOf at h
 split at h
 ·rename_i l
  split at h
  ·rename_i he
   subst he
   cases h
   rw[show V=.string (mkB l) from hc]
   refine ⟨l.map fun c=>Value.int .u8 (c.toNat:Int),fun w1=>by simp[Builtin.lenOf,castL_eq,bytesOf];rfl,fun w1 _=>?_,bytesOf_row l⟩
   have hs:(castL rfl (bytesOf l):List (Ty.int .u8).den).length=l.length:=by simp[castL_eq,bytesOf]
   rw[hs]
   simp only[Builtin.firstCells,Sem.run_pure]
   congr 1
   apply Array.ext'
   simp[ByteArray.data_extract]
  ·cases h
 ·exact src_list B W h hc
 ·cases h
theorem srcTy_ok (B:Base P Γ θ w0 M0 S0) {u:Nat} {e:Ty} (h:srcTy (Γ.ty u) e=true):∃d,P.underlying u=some d∧∀kd,d≠.int kd:=by
 unfold srcTy at h
 split at h
 ·rename_i hu;exact ⟨_,(B.ty _ _ hu).strT,fun _ h=>by cases h⟩
 ·rename_i hu;obtain ⟨te,h1,_⟩:=(B.ty _ _ hu).lstT;exact ⟨_,h1,fun _ h=>by cases h⟩
 ·cases h
section
variable {t u te:TypeId} {ty:TypeId} {ie:TypeInfo} {z:Value} {e:Ty} {d:TypeDesc}
theorem run_app_room (ht:P.underlying t=some (.slice te)) (hu:P.underlying u=some d) (hd:∀kd,d≠.int kd) (hi:P.info? te=some ie) (hs:ie.size=e.size) {p:Option Addr} {sLen sCap:Nat} {X:Value} {ys:List e.den} {news:List Value} (hX:Src P θ S w X e ys news)
  (hroom:sLen+ys.length≤sCap) {w':World} (hw:(if let some a:=p then storeCells (a.add (sLen*e.size)) news else pure ():Sem Unit).run P w=.ok () w') :
  (Builtin.append_ #[t,u] ty #[.slice p sLen sCap,X]).run P w=.ok (.slice p (sLen+ys.length) sCap) w':=by
 have hz:(match d with | .int _=>true | _=>false)=false:=by cases d <;> first | rfl | exact absurd rfl (hd _)
 have hl:=hX.len w
 have hc:=hX.cells w (fun _ _=>rfl)
 cases p with
 | none =>
  simp only[Sem.run_pure] at hw
  cases hw
  simp[Builtin.append_,run_underlying ht,run_underlying hu,sizeOf,typeInfo,hi,hz,hl,hroom,hs,hc]
 | some ad =>
  simp only at hw
  simp[Builtin.append_,run_underlying ht,run_underlying hu,sizeOf,typeInfo,hi,hz,hl,hroom,hs,hc,hw]
theorem run_app_grow (ht:P.underlying t=some (.slice te)) (hu:P.underlying u=some d) (hd:∀kd,d≠.int kd) (hi:P.info? te=some ie) (hs:ie.size=e.size) (hzr:ie.zero=some z) {p:Option Addr} {sLen sCap:Nat} {X:Value} {ys:List e.den} {news olds:List Value} (hX:Src P θ S w X e ys news)
  (hgr:sCap<sLen+ys.length) (hO:∀w1:World,(∀b o,w1.cell? ⟨b,o,none⟩=w.cell? ⟨b,o,none⟩)→(Builtin.firstCells e.size sLen (.slice p sLen sCap)).run P w1=.ok ⟨olds⟩ w1)
  (h63:sLen+ys.length≤9223372036854775807) (hfit:Builtin.nextslicecap (sLen+ys.length) sCap*ie.bytes≤281474976710656) :
  (Builtin.append_ #[t,u] ty #[.slice p sLen sCap,X]).run P w=.ok (.slice (some ⟨w.heap.size,0,none⟩) (sLen+ys.length) (grownCap w (sLen+ys.length) sCap te))
   (w.drew.alloc (.cells (⟨olds++news⟩++Builtin.zeroCells z.cells (grownCap w (sLen+ys.length) sCap te-(sLen+ys.length))) te)):=by
 have hz:(match d with | .int _=>true | _=>false)=false:=by cases d <;> first | rfl | exact absurd rfl (hd _)
 have hl:=hX.len w
 have hc:=hX.cells w.drew (fun _ _=>rfl)
 have ho:=hO w.drew (fun _ _=>rfl)
 have hn:¬(sLen+ys.length≤sCap):=by omega
 have h63':¬(9223372036854775807<((sLen:Int)+(ys.length:Int))):=by omega
 have h48':¬(281474976710656<Builtin.nextslicecap (sLen+ys.length) sCap*ie.bytes):=by omega
 simp[Builtin.append_,run_underlying ht,run_underlying hu,sizeOf,typeInfo,zeroValue,hi,hzr,hz,hl,hn,h63',h48',Question.forced,hs,hc,ho,newRow,grownCap]
 congr 2
 rw[←Array.append_assoc]
 congr 1
 apply Array.ext'
 simp
end
theorem zeroCells_size (z:Array Value) (n:Nat):(Builtin.zeroCells z n).size=n*z.size:=size_zeroCells z n
theorem grow_rob {ι':Nat→Value} {n':Nat} {e:Ty} {zs:List e.den} {cs:List Value} {te:TypeId} {zc:Array Value} {cap:Nat} (hS:∀b,S b→b<w.heap.size) (he:0<e.size) (hz:zc.size=e.size) (hc:zs.length≤cap) (hr:RowL θ S w e zs cs)
  (hn:ι' n'=.slice (some ⟨w.heap.size,0,none⟩) zs.length cap):ROb ι' θ S (w.drew.alloc (.cells (⟨cs⟩++Builtin.zeroCells zc (cap-zs.length)) te)) n' (.row e zs):=by
 have hw:=newB_drew (newB_alloc w.drew (⟨cs⟩++Builtin.zeroCells zc (cap-zs.length)) te)
 have hsame:Same S w (w.drew.alloc (.cells (⟨cs⟩++Builtin.zeroCells zc (cap-zs.length)) te)):=fun b hb=>hw.below.block b (hS b hb)
 have hsz:(⟨cs⟩++Builtin.zeroCells zc (cap-zs.length):Array Value).size=cap*e.size:=by
  rw[Array.size_append,zeroCells_size,hz,show (⟨cs⟩:Array Value).size=cs.length from rfl,hr.len,←Nat.add_mul]
  congr 1;omega
 refine ⟨he,_,cap,hn,hc,.inr ⟨w.heap.size,0,rfl,fun k hk=>?_,fun i x hi=>?_⟩⟩
 ·rw[Nat.zero_add,hw.cell]
  exact ⟨⟨_,Array.getElem?_eq_getElem bo%⟩,hw.frozen k bo%⟩
 ·obtain ⟨ws,c1,c2⟩:=hr.el i x hi
  refine ⟨ws,c1.mono (fun _ h=>h) hsame,fun j v hv=>?_⟩
  have:=c2 j v hv
  have hlt:i*e.size+j<cs.length:=(List.getElem?_eq_some_iff.1 this).1
  rw[Nat.zero_add,hw.cell,Array.getElem?_append_left (by simpa using hlt)]
  simpa using this
theorem room_rob {ι':Nat→Value} {n':Nat} {e:Ty} {xs ys:List e.den} {news:List Value} {b off cap:Nat} (hb:¬S b) (he:0<e.size) (hc:(xs++ys).length≤cap) (hr:RowL θ S w e ys news)
  (h1:∀k,k<cap*e.size→(∃v,w.cell? ⟨b,off+k,none⟩=some v)∧w.frozen? ⟨b,off+k,none⟩=false) (h2:∀i x,xs[i]? = some x→∃ws,RepC θ S w e x ws∧CellsAt w b (off+i*e.size) ws)
  (hn:ι' n'=.slice (some ⟨b,off,none⟩) (xs++ys).length cap):ROb ι' θ S (setsAt w b (off+xs.length*e.size) news) n' (.row e (xs++ys)):=by
 have hsame:Same S w (setsAt w b (off+xs.length*e.size) news):=fun c hcS=>setsAt_block b c (fun e=>hb (e ▸ hcS)) _ _ _
 have hnl:xs.length*e.size+news.length≤cap*e.size:=by
  rw[hr.len,←Nat.add_mul]
  exact Nat.mul_le_mul_right _ (by simpa using hc)
 refine ⟨he,_,cap,hn,hc,.inr ⟨b,off,rfl,fun k hk=>⟨setsAt_some b _ _ _ _ (h1 k hk).1,by rw[setsAt_frozen];exact (h1 k hk).2⟩,fun i x hi=>?_⟩⟩
 by_cases hix:i<xs.length
 ·rw[List.getElem?_append_left hix] at hi
  obtain ⟨ws,c1,c2⟩:=h2 i x hi
  refine ⟨ws,c1.mono (fun _ h=>h) hsame,fun j v hv=>?_⟩
  have hj:j<e.size:=by have:=(List.getElem?_eq_some_iff.1 hv).1;rw[c1.len] at this;exact this
  have:=slot_apart (i:=xs.length) (i':=i) (size:=e.size) (j:=j) hix hj
  rw[setsAt_other b _ _ _ _ (.inl bo%)]
  exact c2 j v hv
 ·rw[List.getElem?_append_right bo%] at hi
  obtain ⟨ws,c1,c2⟩:=hr.el _ x hi
  refine ⟨ws,c1.mono (fun _ h=>h) hsame,fun j v hv=>?_⟩
  have hm:i*e.size=xs.length*e.size+(i-xs.length)*e.size:=by rw[←Nat.add_mul];congr 1;omega
  have:=setsAt_cells b (off+xs.length*e.size) news w (fun j hj=>(by
   have:=(h1 (xs.length*e.size+j) bo%).1
   rwa [←Nat.add_assoc] at this)) ((i-xs.length)*e.size+j) v (c2 j v hv)
  rwa [show off+i*e.size+j=off+xs.length*e.size+((i-xs.length)*e.size+j) by omega]
set_option maxHeartbeats 1600000 in
theorem append_ok (B:Base P Γ θ w0 M0 S0) (W:RepW θ N w0 M0 S0 ι0 r ι S a w) {t u:Nat} {x y:Operand} {c:Call} (hop:o.op=.call c) (hcl:c.callee=.builtin .append) (ha:c.args.toList=[x,y]) (hts:c.argTypes.toList=[t,u])
  (h:stepAppend Γ N r o.dst (some t) (some u) x y k=some q) (hK:Out θ N w0 M0 S0 ι0 k q r K'):o.wp P a w K' Q:=by
 have ea:c.args = #[x,y]:=Array.toList_inj.1 (by simpa using ha)
 have et:c.argTypes = #[t,u]:=Array.toList_inj.1 (by simpa using hts)
 unfold stepAppend at h
 split at h
 ·rename_i e ca cb hl hca hcb
  obtain ⟨hst,h⟩:=bifn_some h
  simp only[Bool.not_eq_false',Bool.and_eq_true,nbeq,decide_eq_true_eq] at hst
  obtain ⟨d,hu,hd⟩:=srcTy_ok B hst.1
  obtain ⟨te,ht,hte⟩:=(B.ty _ _ (lstTy_eq hl)).lstT
  obtain ⟨_,ie,z,zs0,i1,i2,ib,i3,i4,i5⟩:=B.ty _ _ hte
  split at h
  ·cases h
  ·rename_i ys hys
   obtain ⟨news,hX⟩:=src_ok B W hys (evc_ok B W hcb)
   have eca:=evc_ok B W hca
   have hrunOf:∀V w',(Builtin.append_ #[t,u] o.type #[a.eval x,a.eval y]).run P w=.ok V w'→(execOp a.eval o).run P w=.ok (.value V) w':=fun V w' hr=>by
    simp[execOp,hop,resolve,hcl,ea,et,invoke,builtin,hr]
   have hfit:∀need old,old<need→need≤appBound→Builtin.nextslicecap need old*ie.bytes≤281474976710656:=fun need old h1 h2=>by
    refine growslice_fits h1 ?_
    have:need*ie.bytes≤68719476736*1024:=Nat.mul_le_mul h2 ib
    omega
   have hzz:z.cells.size=e.size:=by
    rw[i4,←hst.2,i5.length];rfl
   split at h
   ·rename_i n _
    obtain ⟨_,h⟩:=bifn_some h
    split at h
    ·rename_i e' xs hn
     split at h
     ·rename_i he'
      subst he'
      rw[castL_eq] at h
      obtain ⟨hg,h⟩:=grd_some h
      have hg:=of_decide_eq_true hg
      obtain ⟨he,p,cap,hι,hcap,hrow⟩:=W.obs n _ hn
      have ex:a.eval x=.slice p xs.length cap:=(show a.eval x=ι n from eca).trans hι
      obtain ⟨p',cap',cs,hV,_,hcs,hat⟩:=list_row B W (e:=e') (c:=.sl n) (xs:=xs) (by simp[listOf,hn,castL_eq]) eca
      rw[ex] at hV
      simp only[Value.slice.injEq] at hV
      obtain ⟨rfl,_,rfl⟩:=hV
      by_cases hroom:xs.length+ys.length≤cap
      ·by_cases hc0:cap=0
       ·have hx0:xs=[]:=List.eq_nil_of_length_eq_zero bo%
        have hy0:ys=[]:=List.eq_nil_of_length_eq_zero bo%
        have hn0:news=[]:=List.eq_nil_of_length_eq_zero (by rw[hX.row.len,hy0];simp)
        have hr:=run_app_room (P:=P) (ty:=o.type) (w':=w) ht hu hd i1 i2 (p:=p) hX hroom (by subst hn0;cases p <;> simp[storeCells])
        obtain ⟨r',g1,W',p'⟩:=again_ok (V:=.slice p (xs++ys).length cap) W hn h (w':=w) rfl rfl rfl (Nat.le_refl _) (fun _ _ _=>rfl) rfl
         (fun b hb=>by rw[hc0,blk_zero] at hb;cases hb) ⟨he,p,cap,upd_same _ _ _,by rw[List.length_append];exact hroom,.inl hc0⟩
        refine fin (hrunOf _ _ ?_) g1 W' p' (sl_name _ _) hK
        rw[ex,hr,List.length_append]
       ·obtain ⟨b,off,rfl,h4,h5⟩:=hrow.resolve_left hc0
        have hb:blk (ι n)=some b:=by rw[hι];simp[blk,hc0]
        have hnl:xs.length*e'.size+news.length≤cap*e'.size:=by
         rw[hX.row.len,←Nat.add_mul]
         exact Nat.mul_le_mul_right _ hroom
        have hst:=run_storeCells (P:=P) b (off+xs.length*e'.size) news 0 w (fun j hj=>(by
         have:=h4 (xs.length*e'.size+j) bo%
         rwa [←Nat.add_assoc] at this)) hX.row.one
        have hr:=run_app_room (P:=P) (ty:=o.type) ht hu hd i1 i2 (p:=some ⟨b,off,none⟩) hX hroom (by simpa [Addr.add_lit] using hst)
        obtain ⟨r',g1,W',p'⟩:=again_ok (V:=.slice (some ⟨b,off,none⟩) (xs++ys).length cap) W hn h (w':=setsAt w b (off+xs.length*e'.size) news) (setsAt_os b _ _ _).1 (setsAt_os b _ _ _).2.1 (setsAt_os b _ _ _).2.2 (by rw[setsAt_size];exact Nat.le_refl _)
         (fun c _ hcb=>setsAt_block b c (fun e=>hcb (by rw[hb,e])) _ _ _) rfl (fun c hc=>.inl (by rw[hb];simpa [blk,hc0] using hc))
         (room_rob (W.own n _ b hn hb).1 he (by rw[List.length_append];exact hroom) hX.row h4 h5 (upd_same _ _ _))
        refine fin (hrunOf _ _ ?_) g1 W' p' (sl_name _ _) hK
        rw[ex,hr,List.length_append]
      ·have hr:=run_app_grow (P:=P) (ty:=o.type) ht hu hd i1 i2 i3 (p:=p) (sLen:=xs.length) (sCap:=cap) (olds:=cs) hX bo% (fun w1 hw1=>by
        rcases hat with rfl | ⟨b,off,rfl,hat⟩
        ·have:cs=[]:=List.eq_nil_of_length_eq_zero (by simpa using hcs.len)
         subst this
         cases p <;> simp[Builtin.firstCells,loadCells,loadCellsFrom]
        ·have:=loadCells_at (P:=P) (cellsAt_same hw1 hat)
         rw[hcs.len] at this
         simpa [Builtin.firstCells] using this) (by unfold appBound at hg;omega) (hfit _ _ bo% hg)
       have hge:=grownCap_ge w (xs.length+ys.length) cap te
       obtain ⟨r',g1,W',p'⟩:=again_ok (V:=.slice (some ⟨w.heap.size,0,none⟩) (xs++ys).length (grownCap w (xs.length+ys.length) cap te)) W hn h
        (w':=w.drew.alloc (.cells (⟨cs++news⟩++Builtin.zeroCells z.cells (grownCap w (xs.length+ys.length) cap te-(xs++ys).length)) te)) rfl rfl rfl (by simp) (fun b hb _=>heap_alloc_old _ _ _ hb) rfl
        (fun b hb=>.inr (by
         simp only[blk] at hb
         split at hb
         ·cases hb
         ·simpa using hb.symm))
        (grow_rob W.sb he hzz (by rw[List.length_append];exact hge) (hcs.append hX.row) (upd_same _ _ _))
       refine fin (hrunOf _ _ ?_) g1 W' p' (sl_name _ _) hK
       rw[ex,hr,List.length_append]
     ·cases h
    ·cases h
   ·rename_i v _
    obtain ⟨hv,h⟩:=bif_some h
    simp only[okElem,Bool.and_eq_true,Nat.blt_eq] at hv
    obtain ⟨hv,he⟩:=hv
    obtain ⟨hg,h⟩:=grd_some h
    have hg:=of_decide_eq_true hg
    have ex:a.eval x=.slice none 0 0:=(show a.eval x=v from eca).trans (isNil_eq hv)
    by_cases hy0:ys=[]
    ·subst hy0
     have hn0:news=[]:=List.eq_nil_of_length_eq_zero (by rw[hX.row.len];simp)
     have hr:=run_app_room (P:=P) (ty:=o.type) (w':=w) ht hu hd i1 i2 (p:=none) (sLen:=0) (sCap:=0) hX (by simp) (by simp)
     obtain ⟨r',g1,W',p',_⟩:=new_ok (V:=.slice none 0 0) rfl h W ⟨he,none,0,upd_same _ _ _,Nat.le_refl _,.inl rfl⟩ (fun b hb=>by cases hb)
     refine fin (hrunOf _ _ ?_) g1 W' p' (sl_name _ _) hK
     rw[ex,hr];rfl
    ·have hpos:0<ys.length:=List.length_pos_iff.2 hy0
     have hr:=run_app_grow (P:=P) (ty:=o.type) ht hu hd i1 i2 i3 (p:=none) (sLen:=0) (sCap:=0) (olds:=[]) hX bo% (fun w1 _=>by simp[Builtin.firstCells]) (by unfold appBound at hg;omega) (by
      have:=hfit ys.length 0 hpos hg;simpa using this)
     have hge:=grownCap_ge w (0+ys.length) 0 te
     have hw:=newB_drew (newB_alloc w.drew (⟨[]++news⟩++Builtin.zeroCells z.cells (grownCap w (0+ys.length) 0 te-(0+ys.length))) te)
     have W1:=W.below hw.below
     obtain ⟨r',g1,W',p',_⟩:=new_ok (V:=.slice (some ⟨w.heap.size,0,none⟩) ys.length (grownCap w (0+ys.length) 0 te)) rfl h W1
      (by
       have:=grow_rob (w:=w) (te:=te) (ι':=upd ι (nm (o.dst.getD 0) 1) (.slice (some ⟨w.heap.size,0,none⟩) ys.length (grownCap w (0+ys.length) 0 te))) (n':=nm (o.dst.getD 0) 1) W.sb he hzz bo% hX.row (upd_same _ _ _)
       simpa using this)
      (fun b hb=>by
       simp only[blk] at hb
       split at hb
       ·cases hb
       ·obtain rfl:w.heap.size=b:=by simpa using hb
        exact W.fresh)
     refine fin (hrunOf _ _ ?_) g1 W' p' (sl_name _ _) hK
     rw[ex,hr];simp
   ·cases h
 ·cases h
end Go.VM
namespace Go.VM
open Go.RowKit
variable {P:Program} {Γ:Ctx} {θ:Nat→Value} {N:Nat} {w0:World} {M0 S0:Nat→Prop} {ι0:Nat→Value} {r:Env} {ι:Nat→Value} {S:Nat→Prop} {a:Act} {w:World} {R:Type}
 {o:Oper} {K':Act→World→Prop} {Q:Exit→Act→World→Prop} {k:Env→Option R} {q:R}
theorem fold_push (l:List Int):∀acc:Bs,l.foldl (fun (s:ByteArray) n=>s.push (UInt8.ofNat n.toNat)) (mkB acc)=mkB (acc++strOf l):=by
 induction l with
 | nil=>intro acc;simp[strOf]
 | cons n l ih =>
  intro acc
  rw[List.foldl_cons]
  have:(mkB acc).push (UInt8.ofNat n.toNat)=mkB (acc++[UInt8.ofNat n.toNat]):=by
   simp[ByteArray.push,mkB]
  rw[this,ih]
  simp[strOf]
theorem byte_cells {xs:List Int} {b off:Nat} (h:∀i x,xs[i]? = some x→∃ws,RepC θ S w (.int .u8) x ws∧CellsAt w b (off+i*(Ty.int .u8).size) ws):CellsAt w b off (xs.map (Value.int .u8)):=fun j v hv=>by
 rw[List.getElem?_map] at hv
 obtain ⟨x,h1,rfl⟩:=Option.map_eq_some_iff.1 hv
 obtain ⟨ws,c1,c2⟩:=h j x h1
 have c1:ws=[.int .u8 x]:=c1
 subst c1
 have:=c2 0 _ rfl
 simpa [Ty.size] using this
theorem list_bytes (W:RepW θ N w0 M0 S0 ι0 r ι S a w) {c:CV} {V:Value} {xs:List Int} (h:listOf r.obj (.int .u8) c=some xs) (hc:RCV ι θ S w c V) :
  ∃p cap,V=.slice p xs.length cap∧(xs=[]∨∃b off,p=some ⟨b,off,none⟩∧CellsAt w b off (xs.map (Value.int .u8))):=by
 cases c <;> simp only[listOf] at h <;> (try cases h;done)
 ·rename_i v
  obtain ⟨e1,h⟩:=bif_some h
  cases h
  exact ⟨none,0,by rw[show V=v from hc,isNil_eq e1];rfl,.inl rfl⟩
 ·rename_i n
  split at h
  ·rename_i e' ys hn
   split at h
   ·rename_i he
    subst he
    cases h
    obtain ⟨h0,p,cap,h1,h2,h3⟩:=W.obs n _ hn
    refine ⟨p,cap,(show V=ι n from hc).trans h1,?_⟩
    by_cases hc0:cap=0
    ·exact .inl (List.eq_nil_of_length_eq_zero (by rw[castL_eq];omega))
    ·obtain ⟨b,off,rfl,_,hel⟩:=h3.resolve_left hc0
     exact .inr ⟨b,off,rfl,byte_cells hel⟩
   ·cases h
  ·cases h
 ·rename_i e' ys
  split at h
  ·rename_i he
   subst he
   cases h
   obtain ⟨p,cap,e1,e2,e3⟩:=hc
   refine ⟨p,cap,(List.cons.inj e1).1,?_⟩
   rcases e3 with e3 | ⟨b,off,rfl,_,hel⟩
   ·exact .inl e3
   ·exact .inr ⟨b,off,rfl,byte_cells hel⟩
  ·cases h
theorem conv_ok (B:Base P Γ θ w0 M0 S0) (W:RepW θ N w0 M0 S0 ι0 r ι S a w) {src dst:Nat} {x:Operand} (ho:o.op=.convert src dst x) (h:stepConv Γ N r o.dst src dst x k=some q) (hK:Out θ N w0 M0 S0 ι0 k q r K'):o.wp P a w K' Q:=by
 unfold stepConv at h
 split at h
 ·rename_i k0 qk k1 n hs hd hx
  have ex:a.eval x=.int k1 n:=evc_ok B W hx
  refine fin (V:=.int qk (qk.wrap n)) ?_ h W (.refl r) rfl hK
  simp[execOp,ho,ex,convert,run_underlying (B.ty _ _ hs).intT,run_underlying (B.ty _ _ hd).intT,Conv.intToInt]
 ·rename_i l hs hd hx
  have ex:a.eval x=.string (mkB l):=evc_ok B W hx
  refine fin (V:=.string (mkB l)) ?_ h W (.refl r) rfl hK
  simp[execOp,ho,ex,convert,run_underlying (B.ty _ _ hs).strT,run_underlying (B.ty _ _ hd).strT]
 ·rename_i l hs hd hx
  have ex:a.eval x=.string (mkB l):=evc_ok B W hx
  obtain ⟨te,hu,hte⟩:=(B.ty _ _ hd).lstT
  have hr:=Lib.run_convert_string_bytes (P:=P) w src dst te (mkB l) (B.ty _ _ hs).strT hu (B.ty _ _ hte).intT
  have hsz:(mkB l).size=l.length:=rfl
  have hge:=grownCap_ge w (mkB l).size 0 te
  have hcs:(Lib.bytesCells w te (mkB l)).size=grownCap w (mkB l).size 0 te:=by
   simp only[Lib.bytesCells,Array.size_append,Array.size_map,Array.size_replicate]
   show (mkB l).size+(grownCap w (mkB l).size 0 te-(mkB l).size)=grownCap w (mkB l).size 0 te
   omega
  have hw:NewB w (Lib.bytesWorld w te (mkB l)) (Lib.bytesCells w te (mkB l)):=by
   have hn:=Lib.bytesWorld_at_new w te (mkB l)
   refine ⟨⟨rfl,rfl,rfl,by rw[Lib.bytesWorld_size];omega,fun k hk=>Lib.bytesWorld_at_old w te (mkB l) k hk⟩,Lib.bytesWorld_size w te (mkB l),fun j=>?_,fun j hj=>?_⟩
   ·simp[World.cell?,hn]
   ·simp[World.frozen?,hn];omega
  obtain ⟨r',g1,W',p',_⟩:=row_ok W h hw (by decide) (cap:=grownCap w (mkB l).size 0 te) (by simp[bytesOf];omega) (by rw[hcs];simp[Ty.size]) (fun i x hi=>by
   simp only[bytesOf,List.getElem?_map,Option.map_eq_some_iff] at hi
   obtain ⟨c,h1,rfl⟩:=hi
   refine ⟨_,rfl,fun j v hv=>?_⟩
   cases j with
   | zero =>
    cases hv
    have hlt:i<l.length:=(List.getElem?_eq_some_iff.1 h1).1
    have hc:=(List.getElem?_eq_some_iff.1 h1).2
    rw[show i*(Ty.int .u8).size+0=i by simp[Ty.size]]
    unfold Lib.bytesCells
    rw[Array.getElem?_append_left (by simpa using hlt)]
    simp[hlt,hc]
   | succ j=>simp at hv)
  have hlen:(bytesOf l).length=l.length:=by simp[bytesOf]
  refine fin (V:=.slice (some ⟨w.heap.size,0,none⟩) (bytesOf l).length (grownCap w (mkB l).size 0 te)) ?_ g1 W' p' (sl_name _ _) hK
  rw[hlen,←hsz]
  simp[execOp,ho,ex,hr]
 ·rename_i c hs hd hx
  split at h
  ·rename_i xs hxs
   obtain ⟨te,hu,hte⟩:=(B.ty _ _ hs).lstT
   obtain ⟨p,cap,hV,h3⟩:=list_bytes W hxs (evc_ok B W hx)
   refine fin (V:=.string (mkB (strOf xs))) ?_ h W (.refl r) rfl hK
   have hr:=run_convert_bytes_string (P:=P) w src dst te p xs.length cap hu (B.ty _ _ hte).intT (B.ty _ _ hd).strT
   have hb:(Conv.bytesToString (.slice p xs.length cap)).run P w=.ok (.string (mkB (strOf xs))) w:=by
    cases p with
    | none =>
     rcases h3 with h3 | ⟨b,off,h3,_⟩
     ·subst h3;rfl
     ·cases h3
    | some ad =>
     have hl:(loadCells ad xs.length).run P w=.ok (xs.map (Value.int .u8)).toArray w:=by
      rcases h3 with h3 | ⟨b,off,h3,hc⟩
      ·subst h3;simp[loadCells,loadCellsFrom]
      ·cases h3
       have:=loadCells_at (P:=P) hc
       rwa [List.length_map] at this
     have:=run_bytesToString (P:=P) w ad xs.length cap xs hl
     rw[this]
     congr 2
     exact (fold_push xs []).trans (by simp)
   simp[execOp,ho,hV,hr,hb]
  ·cases h
 ·cases h
end Go.VM
namespace Go.VM
open Go.RowKit
variable {P:Program} {Γ:Ctx} {θ θ':Nat→Value} {N:Nat} {w0:World} {M0 S0:Nat→Prop} {ι0:Nat→Value} {r:Env} {ι:Nat→Value} {S Sx:Nat→Prop} {a:Act} {w:World} {R:Type}
 {o:Oper} {K':Act→World→Prop} {Q:Exit→Act→World→Prop} {k:Env→Option R} {q:R} {cal:Cal Γ}
theorem look_append' {α:Type} (l l':List (Nat×α)) (n:Nat):look (l++l') n=(look l n).or (look l' n):=by
 induction l with
 | nil=>rfl
 | cons p l ih =>
  obtain ⟨k,v⟩:=p
  rw[List.cons_append,look_cons,look_cons,ih]
  split <;> rfl
theorem RepC.conv {S':Nat→Prop}:∀ {t:Ty} {x:t.den} {vs:List Value},(hasLst t=false∨∀b,S b→S' b)→hasOpq t=false→RepC θ S w t x vs→RepC θ' S' w t x vs
 | .unit,_,_,_,_,c=>c
 | .pair _ _,_,_,hs,hq,⟨v1,v2,e,c1,c2⟩=>by
  simp only[hasOpq,Bool.or_eq_false_iff] at hq
  refine ⟨v1,v2,e,c1.conv (hs.imp (fun h=>?_) id) hq.1,c2.conv (hs.imp (fun h=>?_) id) hq.2⟩
  all_goals simp only[hasLst,Bool.or_eq_false_iff] at h
  ·exact h.1
  ·exact h.2
 | .int _,_,_,_,_,c=>c
 | .bool,_,_,_,_,c=>c
 | .str,_,_,_,_,c=>c
 | .err,_,_,_,_,c=>c
 | .rd e,xs,_,hs,hq,⟨p,cap,e1,hc,c⟩=>by
  have hs':=hs.resolve_left (by simp[hasLst])
  exact ⟨p,cap,e1,hc,c.imp id fun ⟨b,o,ep,hb,hx⟩=>⟨b,o,ep,hs' b hb,fun i x hi =>
   let ⟨ws,c1,c2⟩:=hx i x hi
   ⟨ws,c1.conv (.inr hs') hq,c2⟩⟩⟩
 | .opq,_,_,_,hq,_=>by cases hq
 | .adr _,_,_,hs,hq,⟨b,o,ws,e,hb,c1,c2⟩=>by
  have hs':=hs.resolve_left (by simp[hasLst])
  exact ⟨b,o,ws,e,hs' b hb,c1.conv (.inr hs') hq,c2⟩
 | .lst e,xs,_,hs,hq,⟨p,cap,e1,hc,c⟩=>by
  have hs':=hs.resolve_left (by simp[hasLst])
  exact ⟨p,cap,e1,hc,c.imp id fun ⟨b,o,ep,hb,hx⟩=>⟨b,o,ep,hs' b hb,fun i x hi =>
   let ⟨ws,c1,c2⟩:=hx i x hi
   ⟨ws,c1.conv (.inr hs') hq,c2⟩⟩⟩
def cvOk (sh:Bool):CV→Prop
 | .imm e _=>sh=true∧hasOpq e=false
 | .opq _=>False
 | .clo ..=>False
 | .idx t _ _=>sh=true∧hasOpq t=false
 | .elm _ _ _ _=>False
 | _=>True
theorem RCV.conv2 {S':Nat→Prop} {ι':Nat→Value} {sh:Bool} {c:CV} {V:Value} (hc:cvOk sh c) (hs:sh=true→∀b,S b→S' b) (hi:∀n,n∈c.names→ι' n=ι n) (h:RCV ι θ S w c V):RCV ι' θ' S' w c V:=by
 cases c with
 | imm e xs=>exact RepC.conv (.inr (hs hc.1)) (by simpa [hasOpq] using hc.2) h
 | opq n=>cases hc
 | clo _ _ _ _ _ _=>cases hc
 | idx t x off=>obtain ⟨b,o,ws,h1,h2,h3,h4⟩:=h;exact ⟨b,o,ws,h1,hs hc.1 b h2,h3.conv (.inr (hs hc.1)) hc.2,h4⟩
 | ref n off=>obtain ⟨b,h1,h2⟩:=h;exact ⟨b,(hi n (by simp[CV.names])).trans h1,h2⟩
 | elm _ _ _ _=>cases hc
 | sl n=>exact (show V=ι n from h).trans (hi n (by simp[CV.names])).symm
 | _=>exact h
theorem toCells_cv {sh:Bool}:∀ {t:Ty} {x:t.den},hasOpq t=false→(hasLst t=true→sh=true)→∀c,c∈toCells t x→cvOk sh c
 | .unit,_,_,_,c,h=>by cases h
 | .pair a b,x,hq,hl,c,h=>by
  simp only[hasOpq,Bool.or_eq_false_iff] at hq
  rcases List.mem_append.1 h with h | h
  ·exact toCells_cv hq.1 (fun h=>hl (by simp[hasLst,h])) c h
  ·exact toCells_cv hq.2 (fun h=>hl (by simp[hasLst,h])) c h
 | .int _,_,_,_,c,h=>by rw[List.mem_singleton.1 h];trivial
 | .bool,_,_,_,c,h=>by rw[List.mem_singleton.1 h];trivial
 | .str,_,_,_,c,h=>by rw[List.mem_singleton.1 h];trivial
 | .lst e,_,hq,hl,c,h=>by rw[List.mem_singleton.1 h];exact ⟨hl rfl,by simpa [hasOpq] using hq⟩
 | .opq,_,hq,_,c,h=>by cases hq
 | .err,_,_,_,c,h=>by rw[List.mem_singleton.1 h];trivial
 | .rd t,_,hq,hl,c,h=>by rw[List.mem_singleton.1 h];exact ⟨hl rfl,by simpa [hasOpq] using hq⟩
 | .adr t,_,hq,hl,c,h=>by rw[List.mem_singleton.1 h];exact ⟨hl rfl,by simpa [hasOpq] using hq⟩
theorem ownCells_cv {sh:Bool}:∀ {t:Ty} {x:t.den} {m:Nat},hasOpq t=false→(nestLst t=true→sh=true)→∀c,c∈(ownCells t x m).1→cvOk sh c
 | .unit,_,_,_,_,c,h=>by cases h
 | .pair a b,x,m,hq,hl,c,h=>by
  simp only[hasOpq,Bool.or_eq_false_iff] at hq
  rcases List.mem_append.1 h with h | h
  ·exact ownCells_cv hq.1 (fun h=>hl (by simp[nestLst,h])) c h
  ·exact ownCells_cv hq.2 (fun h=>hl (by simp[nestLst,h])) c h
 | .int _,_,_,_,_,c,h=>by rw[List.mem_singleton.1 h];trivial
 | .bool,_,_,_,_,c,h=>by rw[List.mem_singleton.1 h];trivial
 | .str,_,_,_,_,c,h=>by rw[List.mem_singleton.1 h];trivial
 | .lst e,_,_,hq,_,c,h=>by rw[List.mem_singleton.1 h];trivial
 | .opq,_,_,hq,_,c,h=>by cases hq
 | .err,_,_,_,_,c,h=>by rw[List.mem_singleton.1 h];trivial
 | .rd t,_,_,hq,hl,c,h=>by rw[List.mem_singleton.1 h];exact ⟨hl rfl,by simpa [hasOpq] using hq⟩
 | .adr t,_,_,hq,hl,c,h=>by rw[List.mem_singleton.1 h];exact ⟨hl rfl,by simpa [hasOpq] using hq⟩
theorem ownCells_obs {sh:Bool}:∀ {t:Ty} {x:t.den} {m:Nat},hasOpq t=false→(nestLst t=true→sh=true)→∀p,p∈(ownCells t x m).2→∃e xs,p.2=.row e xs∧hasOpq e=false∧(hasLst e=true→sh=true)
 | .unit,_,_,_,_,p,h=>by cases h
 | .pair a b,x,m,hq,hn,p,h=>by
  simp only[hasOpq,Bool.or_eq_false_iff] at hq
  rcases List.mem_append.1 h with h | h
  ·exact ownCells_obs hq.1 (fun h=>hn (by simp[nestLst,h])) p h
  ·exact ownCells_obs hq.2 (fun h=>hn (by simp[nestLst,h])) p h
 | .int _,_,_,_,_,p,h=>by cases h
 | .bool,_,_,_,_,p,h=>by cases h
 | .str,_,_,_,_,p,h=>by cases h
 | .lst e,xs,m,hq,hn,p,h=>by rw[List.mem_singleton.1 h];exact ⟨e,xs,rfl,by simpa [hasOpq] using hq,hn⟩
 | .opq,_,_,hq,_,p,h=>by cases hq
 | .adr _,_,_,_,_,p,h=>by cases h
 | .err,_,_,_,_,p,h=>by cases h
 | .rd _,_,_,_,_,p,h=>by cases h
theorem cnames_append:∀l l':List CV,cnames (l++l')=cnames l++cnames l'
 | [],_=>rfl
 | c :: l,l'=>by simp[cnames,cnames_append l l']
theorem keys_append' {α:Type} (l l':List (Nat×α)):keys (l++l')=keys l++keys l':=by
 induction l with
 | nil=>rfl
 | cons p l ih=>simp[keys,ih]
def valOf (ι:Nat→Value):Option Nat→Value
 | some n=>ι n
 | none=>.slice none 0 0
theorem ownCells_len:∀(t:Ty) (x:t.den) (m:Nat),(ownCells t x m).2.length=lists t
 | .unit,_,_=>rfl
 | .pair a b,x,m=>by simp[ownCells,lists,ownCells_len a,ownCells_len b]
 | .int _,_,_=>rfl
 | .bool,_,_=>rfl
 | .str,_,_=>rfl
 | .lst _,_,_=>rfl
 | .opq,_,_=>rfl
 | .adr _,_,_=>rfl
 | .err,_,_=>rfl
 | .rd _,_,_=>rfl
theorem keys_append {α:Type} (l l':List (Nat×α)):keys (l++l')=keys l++keys l':=by
 induction l with
 | nil=>rfl
 | cons p l ih=>simp[keys,ih]
theorem upFrom_append (m a b:Nat):upFrom m (a+b)=upFrom m a++upFrom (m+a) b:=by
 induction a generalizing m with
 | zero=>simp[upFrom]
 | succ a ih=>rw[show a+1+b=(a+b)+1 by omega];simp only[upFrom,ih,List.cons_append];congr 3;omega
theorem mem_upFrom (n m k:Nat):n∈upFrom m k↔m≤n∧n<m+k:=by
 induction k generalizing m with
 | zero=>simp[upFrom] <;> omega
 | succ k ih=>simp only[upFrom,List.mem_cons,ih];omega
theorem ownCells_keys:∀(t:Ty) (x:t.den) (m:Nat),keys (ownCells t x m).2=upFrom m (lists t)
 | .unit,_,_=>rfl
 | .pair a b,x,m=>by simp only[ownCells,lists,keys_append,ownCells_keys a,ownCells_keys b,ownCells_len,upFrom_append]
 | .int _,_,_=>rfl
 | .bool,_,_=>rfl
 | .str,_,_=>rfl
 | .lst _,_,_=>rfl
 | .opq,_,_=>rfl
 | .adr _,_,_=>rfl
 | .err,_,_=>rfl
 | .rd _,_,_=>rfl
theorem look_append {α:Type} (l l':List (Nat×α)) (n:Nat):look (l++l') n=(look l n).or (look l' n):=by
 induction l with
 | nil=>rfl
 | cons p l ih =>
  obtain ⟨k,v⟩:=p
  rw[List.cons_append,look_cons,look_cons,ih]
  split <;> rfl
theorem look_keys {α:Type} {l:List (Nat×α)} {n:Nat} {v:α} (h:look l n=some v):n∈keys l:=by
 induction l with
 | nil=>cases h
 | cons p l ih =>
  obtain ⟨k,u⟩:=p
  rw[look_cons] at h
  split at h
  ·rename_i e;simp[keys,e]
  ·simp[keys,ih h]
theorem ownC_ok {ob:Nat→Option Ob} (hob:∀n o,ob n=some o→ROb ι θ S w n o):∀ {t:Ty} {cs:List CV} {x:t.den} {ns:List Nat} {rest:List CV} {vs:List Value},ownC ob t cs=some (x,ns,rest)→All2 (RCV ι θ S w) cs vs →
  ∃(v1 v2:List Value) (Ls:List (Option Nat)),vs=v1++v2∧All2 (RCV ι θ S w) rest v2∧Ls.length=lists t∧ns=Ls.filterMap id∧(∀n,n∈ns→∃e xs,ob n=some (.row e xs)) ∧
   ∀ι' m,(∀i L,Ls[i]? = some L→ι' (m+i)=valOf ι L)→All2 (RCV ι' θ S w) (ownCells t x m).1 v1∧∀n o,look (ownCells t x m).2 n=some o→ROb ι' θ S w n o
 | .unit,cs,x,ns,rest,vs,h,hc=>by
  simp only[ownC,ofCells,Option.some.injEq,Prod.mk.injEq] at h
  obtain ⟨_,rfl,rfl⟩:=h
  exact ⟨[],vs,[],rfl,hc,rfl,rfl,fun n h=>(by cases h),fun ι' m _=>⟨.nil,fun n o h=>(by cases h)⟩⟩
 | .pair a b,cs,x,ns,rest,vs,h,hc=>by
  simp only[ownC] at h
  split at h
  ·cases h
  ·rename_i p hp
   split at h
   ·cases h
   ·rename_i p2 hp2
    simp only[Option.some.injEq,Prod.mk.injEq] at h
    obtain ⟨rfl,rfl,rfl⟩:=h
    obtain ⟨v1,v2,L1,rfl,h1,h2,h3,h4,h5⟩:=ownC_ok hob (x:=p.1) (ns:=p.2.1) (rest:=p.2.2) hp hc
    obtain ⟨v3,v4,L2,rfl,g1,g2,g3,g4,g5⟩:=ownC_ok hob (x:=p2.1) (ns:=p2.2.1) (rest:=p2.2.2) hp2 h1
    refine ⟨v1++v3,v4,L1++L2,by simp,g1,by simp[lists,h2,g2],by rw[h3,g3,List.filterMap_append],fun n hn=>?_,fun ι' m hι=>?_⟩
    ·rcases List.mem_append.1 hn with hn | hn
     ·exact h4 n hn
     ·exact g4 n hn
    ·obtain ⟨k1,k2⟩:=h5 ι' m (fun i L hL=>hι i L (by rw[List.getElem?_append_left (List.getElem?_eq_some_iff.1 hL).1];exact hL))
     obtain ⟨k3,k4⟩:=g5 ι' (m+lists a) (fun i L hL=>by
      rw[Nat.add_assoc]
      refine hι _ L ?_
      rw[List.getElem?_append_right bo%,h2]
      rw[show lists a+i-lists a=i by omega];exact hL)
     simp only[ownCells,ownCells_len]
     refine ⟨k1.append k3,fun n o hno=>?_⟩
     rw[look_append] at hno
     cases hq:look (ownCells a p.1 m).2 n with
     | some o'=>rw[hq] at hno;cases hno;exact k2 n _ hq
     | none=>rw[hq] at hno;exact k4 n o hno
 | .lst e,[],x,ns,rest,vs,h,hc=>by cases h
 | .lst e,c :: cs,x,ns,rest,_,h,.cons h1 h2=>by
  simp only[ownC] at h
  cases c <;> simp only at h <;> (try cases h;done)
  ·rename_i v
   obtain ⟨hv,h⟩:=bif_some h
   simp only[okElem,Bool.and_eq_true,Nat.blt_eq] at hv
   simp only[Option.some.injEq,Prod.mk.injEq] at h
   obtain ⟨rfl,rfl,rfl⟩:=h
   refine ⟨[_],_,[none],rfl,h2,rfl,rfl,fun n h=>(by cases h),fun ι' m hι=>?_⟩
   have h0:=hι 0 none rfl
   simp only[Nat.add_zero,valOf] at h0
   refine ⟨.cons ?_ .nil,fun n o hno=>?_⟩
   ·rw[show _=v from h1,isNil_eq hv.1];exact h0.symm
   ·simp only[ownCells] at hno
    rw[look_cons] at hno
    split at hno
    ·rename_i e';subst e';cases hno
     exact ⟨hv.2,none,0,h0,Nat.le_refl _,.inl rfl⟩
    ·cases hno
  ·rename_i n
   split at h
   ·rename_i e' ys hn
    split at h
    ·rename_i he
     subst he
     simp only[Option.some.injEq,Prod.mk.injEq] at h
     obtain ⟨rfl,rfl,rfl⟩:=h
     refine ⟨[_],_,[some n],rfl,h2,rfl,rfl,fun m hm=>by rw[List.mem_singleton.1 hm];exact ⟨_,_,hn⟩,fun ι' m hι=>?_⟩
     have h0:=hι 0 (some n) rfl
     simp only[Nat.add_zero,valOf] at h0
     refine ⟨.cons ((show _=ι n from h1).trans h0.symm) .nil,fun n' o hno=>?_⟩
     simp only[ownCells] at hno
     rw[look_cons] at hno
     split at hno
     ·rename_i e'';subst e'';cases hno
      obtain ⟨k0,p,cap,k1,k2⟩:=hob n _ hn
      exact ⟨k0,p,cap,h0.trans k1,k2⟩
     ·cases hno
    ·cases h
   ·cases h
 | .int k,cs,x,ns,rest,vs,h,hc=>by
  simp only[ownC] at h
  split at h
  ·rename_i p hp
   simp only[Option.some.injEq,Prod.mk.injEq] at h
   obtain ⟨rfl,rfl,rfl⟩:=h
   obtain ⟨v1,v2,rfl,h1,h2⟩:=ofCells_ok (S':=S) (fun _ h=>h) none_ob (x:=p.1) (rest:=p.2) hp hc
   exact ⟨v1,v2,[],rfl,h2,rfl,rfl,fun n h=>(by cases h),fun ι' m _=>⟨h1.cells,fun n o h=>(by cases h)⟩⟩
  ·cases h
 | .bool,cs,x,ns,rest,vs,h,hc=>by
  simp only[ownC] at h
  split at h
  ·rename_i p hp
   simp only[Option.some.injEq,Prod.mk.injEq] at h
   obtain ⟨rfl,rfl,rfl⟩:=h
   obtain ⟨v1,v2,rfl,h1,h2⟩:=ofCells_ok (S':=S) (fun _ h=>h) none_ob (x:=p.1) (rest:=p.2) hp hc
   exact ⟨v1,v2,[],rfl,h2,rfl,rfl,fun n h=>(by cases h),fun ι' m _=>⟨h1.cells,fun n o h=>(by cases h)⟩⟩
  ·cases h
 | .str,cs,x,ns,rest,vs,h,hc=>by
  simp only[ownC] at h
  split at h
  ·rename_i p hp
   simp only[Option.some.injEq,Prod.mk.injEq] at h
   obtain ⟨rfl,rfl,rfl⟩:=h
   obtain ⟨v1,v2,rfl,h1,h2⟩:=ofCells_ok (S':=S) (fun _ h=>h) none_ob (x:=p.1) (rest:=p.2) hp hc
   exact ⟨v1,v2,[],rfl,h2,rfl,rfl,fun n h=>(by cases h),fun ι' m _=>⟨h1.cells,fun n o h=>(by cases h)⟩⟩
  ·cases h
 | .opq,cs,x,ns,rest,vs,h,hc=>by
  simp only[ownC] at h
  split at h
  ·rename_i p hp
   simp only[Option.some.injEq,Prod.mk.injEq] at h
   obtain ⟨rfl,rfl,rfl⟩:=h
   obtain ⟨v1,v2,rfl,h1,h2⟩:=ofCells_ok (S':=S) (fun _ h=>h) none_ob (x:=p.1) (rest:=p.2) hp hc
   exact ⟨v1,v2,[],rfl,h2,rfl,rfl,fun n h=>(by cases h),fun ι' m _=>⟨h1.cells,fun n o h=>(by cases h)⟩⟩
  ·cases h
 | .rd _,cs,x,ns,rest,vs,h,hc=>by
  simp only[ownC] at h
  split at h
  ·rename_i p hp
   simp only[Option.some.injEq,Prod.mk.injEq] at h
   obtain ⟨rfl,rfl,rfl⟩:=h
   obtain ⟨v1,v2,rfl,h1,h2⟩:=ofCells_ok (S':=S) (fun _ h=>h) none_ob (x:=p.1) (rest:=p.2) hp hc
   exact ⟨v1,v2,[],rfl,h2,rfl,rfl,fun n h=>(by cases h),fun ι' m _=>⟨h1.cells,fun n o h=>(by cases h)⟩⟩
  ·cases h
 | .err,cs,x,ns,rest,vs,h,hc=>by
  simp only[ownC] at h
  split at h
  ·rename_i p hp
   simp only[Option.some.injEq,Prod.mk.injEq] at h
   obtain ⟨rfl,rfl,rfl⟩:=h
   obtain ⟨v1,v2,rfl,h1,h2⟩:=ofCells_ok (S':=S) (fun _ h=>h) none_ob (x:=p.1) (rest:=p.2) hp hc
   exact ⟨v1,v2,[],rfl,h2,rfl,rfl,fun n h=>(by cases h),fun ι' m _=>⟨h1.cells,fun n o h=>(by cases h)⟩⟩
  ·cases h
 | .adr _,cs,x,ns,rest,vs,h,hc=>by
  simp only[ownC] at h
  split at h
  ·rename_i p hp
   simp only[Option.some.injEq,Prod.mk.injEq] at h
   obtain ⟨rfl,rfl,rfl⟩:=h
   obtain ⟨v1,v2,rfl,h1,h2⟩:=ofCells_ok (S':=S) (fun _ h=>h) none_ob (x:=p.1) (rest:=p.2) hp hc
   exact ⟨v1,v2,[],rfl,h2,rfl,rfl,fun n h=>(by cases h),fun ι' m _=>⟨h1.cells,fun n o h=>(by cases h)⟩⟩
  ·cases h
theorem ofCells_names:∀ {t:Ty} {cs:List CV} {x:t.den} {rest:List CV},(∀e,t≠.lst e)→t.isS=false→ofCells (fun _=>none) t cs=some (x,rest)→cnames cs=cnames rest
 | .unit,_,_,_,_,h,_=>by cases h
 | .pair _ _,_,_,_,_,h,_=>by cases h
 | .lst e,_,_,_,h,_,_=>absurd rfl (h e)
 | .int _,c :: cs,x,rest,_,_,h=>by
  cases c <;> simp only[ofCells] at h <;> (try cases h;done)
  obtain ⟨_,h⟩:=bif_some h
  cases h;rfl
 | .bool,c :: cs,x,rest,_,_,h=>by cases c <;> simp only[ofCells] at h <;> (try cases h;done);cases h;rfl
 | .str,c :: cs,x,rest,_,_,h=>by cases c <;> simp only[ofCells] at h <;> (try cases h;done);cases h;rfl
 | .opq,c :: cs,x,rest,_,_,h=>by cases c <;> simp only[ofCells] at h <;> (try cases h;done);cases h;rfl
 | .rd e,c :: cs,x,rest,_,_,h=>by
  simp only[ofCells] at h
  split at h
  ·rename_i y hy
   cases c <;> simp only[listOf] at hy <;> (try cases hy;done) <;> cases h <;> rfl
  ·cases h
 | .err,c :: cs,x,rest,_,_,h=>by cases c <;> simp only[ofCells] at h <;> (try cases h;done);cases h;rfl
 | .adr _,c :: cs,x,rest,_,_,h=>by
  simp only[ofCells] at h
  split at h
  ·rename_i y hy
   cases c <;> simp only[adrOf] at hy <;> (try cases hy;done)
   cases h;rfl
  ·cases h
theorem ownC_names {ob:Nat→Option Ob}:∀ {t:Ty} {cs:List CV} {x:t.den} {ns:List Nat} {rest:List CV},ownC ob t cs=some (x,ns,rest)→cnames cs=ns++cnames rest
 | .unit,cs,x,ns,rest,h=>by
  simp only[ownC,ofCells,Option.some.injEq,Prod.mk.injEq] at h
  obtain ⟨_,rfl,rfl⟩:=h;rfl
 | .pair a b,cs,x,ns,rest,h=>by
  simp only[ownC] at h
  split at h
  ·cases h
  ·rename_i p hp
   split at h
   ·cases h
   ·rename_i p2 hp2
    simp only[Option.some.injEq,Prod.mk.injEq] at h
    obtain ⟨rfl,rfl,rfl⟩:=h
    rw[ownC_names (x:=p.1) (ns:=p.2.1) (rest:=p.2.2) hp,ownC_names (x:=p2.1) (ns:=p2.2.1) (rest:=p2.2.2) hp2,List.append_assoc]
 | .lst e,[],x,ns,rest,h=>by cases h
 | .lst e,c :: cs,x,ns,rest,h=>by
  simp only[ownC] at h
  cases c <;> simp only at h <;> (try cases h;done)
  ·obtain ⟨hv,h⟩:=bif_some h
   simp only[Option.some.injEq,Prod.mk.injEq] at h
   obtain ⟨rfl,rfl,rfl⟩:=h;rfl
  ·split at h
   ·split at h
    ·simp only[Option.some.injEq,Prod.mk.injEq] at h
     obtain ⟨rfl,rfl,rfl⟩:=h;rfl
    ·cases h
   ·cases h
 | .int k,cs,x,ns,rest,h=>by
  simp only[ownC] at h
  split at h
  ·rename_i p hp
   simp only[Option.some.injEq,Prod.mk.injEq] at h
   obtain ⟨rfl,rfl,rfl⟩:=h
   exact ofCells_names (x:=p.1) (rest:=p.2) (fun _ h=>by cases h) rfl hp
  ·cases h
 | .bool,cs,x,ns,rest,h=>by
  simp only[ownC] at h
  split at h
  ·rename_i p hp
   simp only[Option.some.injEq,Prod.mk.injEq] at h
   obtain ⟨rfl,rfl,rfl⟩:=h
   exact ofCells_names (x:=p.1) (rest:=p.2) (fun _ h=>by cases h) rfl hp
  ·cases h
 | .str,cs,x,ns,rest,h=>by
  simp only[ownC] at h
  split at h
  ·rename_i p hp
   simp only[Option.some.injEq,Prod.mk.injEq] at h
   obtain ⟨rfl,rfl,rfl⟩:=h
   exact ofCells_names (x:=p.1) (rest:=p.2) (fun _ h=>by cases h) rfl hp
  ·cases h
 | .opq,cs,x,ns,rest,h=>by
  simp only[ownC] at h
  split at h
  ·rename_i p hp
   simp only[Option.some.injEq,Prod.mk.injEq] at h
   obtain ⟨rfl,rfl,rfl⟩:=h
   exact ofCells_names (x:=p.1) (rest:=p.2) (fun _ h=>by cases h) rfl hp
  ·cases h
 | .rd _,cs,x,ns,rest,h=>by
  simp only[ownC] at h
  split at h
  ·rename_i p hp
   simp only[Option.some.injEq,Prod.mk.injEq] at h
   obtain ⟨rfl,rfl,rfl⟩:=h
   exact ofCells_names (x:=p.1) (rest:=p.2) (fun _ h=>by cases h) rfl hp
  ·cases h
 | .err,cs,x,ns,rest,h=>by
  simp only[ownC] at h
  split at h
  ·rename_i p hp
   simp only[Option.some.injEq,Prod.mk.injEq] at h
   obtain ⟨rfl,rfl,rfl⟩:=h
   exact ofCells_names (x:=p.1) (rest:=p.2) (fun _ h=>by cases h) rfl hp
  ·cases h
 | .adr _,cs,x,ns,rest,h=>by
  simp only[ownC] at h
  split at h
  ·rename_i p hp
   simp only[Option.some.injEq,Prod.mk.injEq] at h
   obtain ⟨rfl,rfl,rfl⟩:=h
   exact ofCells_names (x:=p.1) (rest:=p.2) (fun _ h=>by cases h) rfl hp
  ·cases h
theorem look_mem {α:Type}:∀ {l:List (Nat×α)} {n:Nat} {v:α},look l n=some v→(n,v)∈l
 | [],_,_,h=>by cases h
 | (k,u) :: l,n,v,h=>by
  rw[look_cons] at h
  split at h
  ·rename_i e;subst e;cases h;simp
  ·exact List.mem_cons_of_mem _ (look_mem h)
theorem lists_none:∀ {t:Ty},lists t=0→∀(x:t.den) m,(ownCells t x m).2=[]
 | .unit,_,_,_=>rfl
 | .pair a b,h,x,m=>by
  simp only[lists,Nat.add_eq_zero_iff] at h
  simp only[ownCells,lists_none h.1,lists_none h.2,List.append_nil]
 | .int _,_,_,_=>rfl
 | .bool,_,_,_=>rfl
 | .str,_,_,_=>rfl
 | .opq,_,_,_=>rfl
 | .adr _,_,_,_=>rfl
 | .err,_,_,_=>rfl
 | .rd _,_,_,_=>rfl
theorem lists_one:∀ {t:Ty},lists t=1→∀(x:t.den),∃xs:List (lstE t).den,∀m,(ownCells t x m).2=[(m,.row (lstE t) xs)]
 | .pair a b,h,x=>by
  simp only[lists] at h
  cases ha:lists a with
  | zero =>
   have hb:lists b=1:=by omega
   obtain ⟨xs,hx⟩:=lists_one hb x.2
   have e:lstE (.pair a b)=lstE b:=by simp[lstE,ha]
   rw[e]
   exact ⟨xs,fun m=>by simp only[ownCells,lists_none ha,List.nil_append,List.length_nil,Nat.add_zero,hx]⟩
  | succ n =>
   have hb:lists b=0:=by omega
   have ha1:lists a=1:=by omega
   obtain ⟨xs,hx⟩:=lists_one ha1 x.1
   have e:lstE (.pair a b)=lstE a:=by simp only[lstE,ha1];rfl
   rw[e]
   exact ⟨xs,fun m=>by simp only[ownCells,lists_none hb,List.append_nil,hx]⟩
 | .lst e,_,x=>⟨x,fun m=>rfl⟩
theorem lstE_opq:∀ {t:Ty},hasOpq t=false→hasOpq (lstE t)=false
 | .pair a b,h=>by
  simp only[hasOpq,Bool.or_eq_false_iff] at h
  simp only[lstE]
  cases hb:Nat.beq (lists a) 0 with
  | true=>exact lstE_opq h.2
  | false=>exact lstE_opq h.1
 | .lst e,h=>by simpa [hasOpq,lstE] using h
 | .unit,_=>rfl
 | .int _,_=>rfl
 | .bool,_=>rfl
 | .str,_=>rfl
 | .opq,_=>rfl
 | .adr _,_=>rfl
 | .err,_=>rfl
 | .rd _,_=>rfl
end Go.VM
namespace Go.VM
open Go.RowKit
def FnOk (P:Program) (Γ:Ctx) (g:Nat) (sg:Sig) (F:sg.inTy.den→Option sg.outTy.den):Prop :=
 ∀(x:sg.inTy.den) (y:sg.outTy.den),F x=some y→sg.ok=true→∀(θ:Nat→Value) (w:World) (ι:Nat→Value) (S:Nat→Prop) (Vs:List Value) (base:Nat),
  (∀n,(θ n).oneCell'=true)→(∀n,(ι n).oneCell'=true)→(∀b,S b→b<w.heap.size)→GlobOk Γ θ S w →
  All2 (RSV ι θ S w) (parsSV 0 sg.ps x) Vs→(∀n o,look (parsOb 0 sg.ps x) n=some o→ROb ι θ S w n o) →
  (∀n o b,look (parsOb 0 sg.ps x) n=some o→blk (ι n)=some b→¬S b) →
  (∀n m o o' b,look (parsOb 0 sg.ps x) n=some o→look (parsOb 0 sg.ps x) m=some o'→blk (ι n)=some b→blk (ι m)=some b→n=m) →
  base+(resTV sg.rs (ioTys sg.ps) y base).2.1.length≤parBase →
  Invk P g ⟨Vs⟩ w fun e w'=>∃V ι' S',e=.returned V ∧
   (∀b,S b→S' b)∧(∀b,S' b→S b∨w.heap.size≤b)∧(∀b,S' b→b<w'.heap.size)∧(∀n,(ι' n).oneCell'=true) ∧
   (∀n o,look (parsOb 0 sg.ps x) n=some o→ι' n=ι n) ∧
   Keep (fun b=>∃n o,look (parsOb 0 sg.ps x) n=some o∧blk (ι n)=some b) w w' ∧
   RSV ι' θ S' w' (oneOf (resTV sg.rs (ioTys sg.ps) y base).1) V ∧
   (∀n o,look (resTV sg.rs (ioTys sg.ps) y base).2.1 n=some o→ROb ι' θ S' w' n o∧∀b,blk (ι' n)=some b→¬S' b∧w.heap.size≤b) ∧
   (∀n m o o' b,look (resTV sg.rs (ioTys sg.ps) y base).2.1 n=some o→look (resTV sg.rs (ioTys sg.ps) y base).2.1 m=some o'→blk (ι' n)=some b→blk (ι' m)=some b→n=m) ∧
   (∀n o,look (ioObs 0 sg.ps (resTV sg.rs (ioTys sg.ps) y base).2.2) n=some o→ROb ι' θ S' w' n o)
variable {P:Program} {Γ:Ctx} {θ θ':Nat→Value} {N:Nat} {w0:World} {M0 S0:Nat→Prop} {ι0:Nat→Value} {r:Env} {ι:Nat→Value} {S Sx:Nat→Prop} {a:Act} {w:World} {R:Type}
 {o:Oper} {K':Act→World→Prop} {Q:Exit→Act→World→Prop} {k:Env→Option R} {q:R} {cal:Cal Γ}
theorem toTV_ok {t:Ty} {x:t.den} {vs:List Value} (h:RepC θ S w t x vs):RTV ι θ S w (toTV t x) (aggOf t vs):=by
 have hc:=h.cells (ι:=ι)
 cases t
 case unit=>exact ⟨vs,rfl,hc⟩
 case pair=>exact ⟨vs,rfl,hc⟩
 all_goals
  simp only[toCells] at hc
  cases hc with
  | cons k1 k2=>cases k2;exact k1
theorem tokCells_ok {ob:Nat→Option Ob} (hi:∀n,(ι n).oneCell'=true) (ht:∀n,(θ n).oneCell'=true) (hs:∀b,S b→Sx b) (hob:∀n e xs,ob n=some (.row e xs)→RepC θ Sx w (.lst e) xs [ι n]) :
  ∀ {t:Ty} {cs:List CV} {x:t.den} {rest:List CV} {vs:List Value} {m:Nat},tokCells ob t cs m=some (x,rest)→All2 (RCV ι θ S w) cs vs→(hasOpq t=true→∀j V,vs[j]? = some V→V.oneCell'=true→θ' (m+j)=V) →
   ∃v1 v2,vs=v1++v2∧RepC θ' Sx w t x v1∧All2 (RCV ι θ S w) rest v2
 | .pair a b,cs,x,rest,vs,m,h,hc,hθ=>by
  simp only[tokCells] at h
  split at h
  ·cases h
  ·rename_i p hp
   split at h
   ·cases h
   ·rename_i p2 hp2
    simp only[Option.some.injEq,Prod.mk.injEq] at h
    obtain ⟨rfl,rfl⟩:=h
    obtain ⟨v1,v2,rfl,h1,h2⟩:=tokCells_ok hi ht hs hob (x:=p.1) (rest:=p.2) hp hc (fun ha j V hV=>hθ (by simp[hasOpq,ha]) j V hV)
    obtain ⟨v3,v4,rfl,h3,h4⟩:=tokCells_ok hi ht hs hob (x:=p2.1) (rest:=p2.2) hp2 h2 (fun hb j V hV h1c=>by
     rw[Nat.add_assoc]
     refine hθ (by simp[hasOpq,hb]) _ V ?_ h1c
     rw[List.getElem?_append_right (by rw[h1.len];omega),h1.len,show a.size+j-a.size=j by omega]
     exact hV)
    exact ⟨v1++v3,v4,by simp,⟨v1,v3,rfl,h1,h3⟩,h4⟩
 | .opq,[],x,rest,vs,m,h,hc,hθ=>by cases h
 | .opq,c :: cs,x,rest,_,m,h,.cons h1 h2,hθ=>by
  simp only[tokCells] at h
  obtain ⟨hok,h⟩:=bif_some h
  simp only[Option.some.injEq,Prod.mk.injEq] at h
  obtain ⟨rfl,rfl⟩:=h
  refine ⟨[_],_,rfl,?_,h2⟩
  have:=hθ rfl 0 _ rfl (RCV.one1 hi ht h1 hok)
  exact congrArg (· :: []) this.symm
 | .unit,cs,x,rest,vs,m,h,hc,_=>by
  obtain ⟨v1,v2,e,h1,h2⟩:=ofCells_ok hs hob (show ofCells ob .unit cs=some (x,rest) from h) hc
  exact ⟨v1,v2,e,h1,h2⟩
 | .int k,cs,x,rest,vs,m,h,hc,_=>by
  obtain ⟨v1,v2,e,h1,h2⟩:=ofCells_ok hs hob (show ofCells ob (.int k) cs=some (x,rest) from h) hc
  exact ⟨v1,v2,e,h1,h2⟩
 | .bool,cs,x,rest,vs,m,h,hc,_=>by
  obtain ⟨v1,v2,e,h1,h2⟩:=ofCells_ok hs hob (show ofCells ob .bool cs=some (x,rest) from h) hc
  exact ⟨v1,v2,e,h1,h2⟩
 | .str,cs,x,rest,vs,m,h,hc,_=>by
  obtain ⟨v1,v2,e,h1,h2⟩:=ofCells_ok hs hob (show ofCells ob .str cs=some (x,rest) from h) hc
  exact ⟨v1,v2,e,h1,h2⟩
 | .err,cs,x,rest,vs,m,h,hc,_=>by
  obtain ⟨v1,v2,e,h1,h2⟩:=ofCells_ok hs hob (show ofCells ob .err cs=some (x,rest) from h) hc
  exact ⟨v1,v2,e,h1,h2⟩
 | .rd e,cs,x,rest,vs,m,h,hc,hθ=>by
  simp only[tokCells] at h
  obtain ⟨hq,h⟩:=bifn_some h
  obtain ⟨v1,v2,e1,h1,h2⟩:=ofCells_ok hs hob h hc
  exact ⟨v1,v2,e1,h1.conv (.inr fun _ h=>h) hq,h2⟩
 | .adr e,cs,x,rest,vs,m,h,hc,hθ=>by
  simp only[tokCells] at h
  obtain ⟨hq,h⟩:=bifn_some h
  obtain ⟨v1,v2,e1,h1,h2⟩:=ofCells_ok hs hob h hc
  exact ⟨v1,v2,e1,h1.conv (.inr fun _ h=>h) hq,h2⟩
 | .lst e,cs,x,rest,vs,m,h,hc,hθ=>by
  simp only[tokCells] at h
  obtain ⟨hq,h⟩:=bifn_some h
  obtain ⟨v1,v2,e1,h1,h2⟩:=ofCells_ok hs hob h hc
  exact ⟨v1,v2,e1,h1.conv (.inr fun _ h=>h) hq,h2⟩
def ioMap:Nat→List (Ty×Nat)→List SV→List (Nat×Nat)
 | i,(_,0) :: ps,_ :: vs=>ioMap (i+1) ps vs
 | i,(_,1) :: ps,v :: vs=>match v with
  | .t (.one (.ref n _))=>(pn i 0,n) :: ioMap (i+1) ps vs
  | _=>ioMap (i+1) ps vs
 | i,(_,2) :: ps,v :: vs=>match v with
  | .t (.one (.sl n))=>(pn i 1,n) :: ioMap (i+1) ps vs
  | _=>ioMap (i+1) ps vs
 | i,(_,_+3) :: ps,v :: vs=>match stName v with
  | some n=>(pn i 1,n) :: ioMap (i+1) ps vs
  | none=>ioMap (i+1) ps vs
 | _,_,_=>[]
def TokH (w:World) (ι θ':Nat→Value):List (Ty×Nat)→List SV→Prop
 | (t,1) :: ps,v :: vs=>(match v with
  | .t (.one (.ref n _))=>hasOpq t=true→∀b,ι n=.pointer (some ⟨b,0,none⟩)→∀j V,w.cell? ⟨b,j,none⟩=some V→V.oneCell'=true→θ' j=V
  | _=>True)∧TokH w ι θ' ps vs
 | (t,_) :: ps,_ :: vs=>hasOpq t=false∧TokH w ι θ' ps vs
 | _,_=>True
theorem ioMap_lt:∀ {ps:List (Ty×Nat)} {vs:List SV} {i:Nat} {p:Nat×Nat},p∈ioMap i ps vs→pn i 0≤p.1
 | [],vs,i,p,h=>by cases vs <;> simp[ioMap] at h
 | (t,0) :: ps,[],i,p,h=>by simp[ioMap] at h
 | (t,1) :: ps,[],i,p,h=>by simp[ioMap] at h
 | (t,2) :: ps,[],i,p,h=>by simp[ioMap] at h
 | (t,n+3) :: ps,[],i,p,h=>by simp[ioMap] at h
 | (t,0) :: ps,v :: vs,i,p,h=>by
  simp only[ioMap] at h
  have:=ioMap_lt (ps:=ps) h
  unfold pn at *;omega
 | (t,1) :: ps,v :: vs,i,p,h=>by
  simp only[ioMap] at h
  split at h
  ·rcases List.mem_cons.1 h with rfl | h
   ·exact Nat.le_refl _
   ·have:=ioMap_lt (ps:=ps) h
    unfold pn at *;omega
  ·have:=ioMap_lt (ps:=ps) h
   unfold pn at *;omega
 | (t,n+3) :: ps,v :: vs,i,p,h=>by
  simp only[ioMap] at h
  split at h
  ·rcases List.mem_cons.1 h with rfl | h
   ·unfold pn;omega
   ·have:=ioMap_lt (ps:=ps) h
    unfold pn at *;omega
  ·have:=ioMap_lt (ps:=ps) h
   unfold pn at *;omega
 | (t,2) :: ps,v :: vs,i,p,h=>by
  simp only[ioMap] at h
  split at h
  ·rcases List.mem_cons.1 h with rfl | h
   ·unfold pn;omega
   ·have:=ioMap_lt (ps:=ps) h
    unfold pn at *;omega
  ·have:=ioMap_lt (ps:=ps) h
   unfold pn at *;omega
theorem argSt_ok (hι:∀n,(ι n).oneCell'=true) (hobs:∀n o,r.obj n=some o→ROb ι θ S w n o) (hs:∀b,S b→Sx b) {t:Ty} {v:SV} {V:Value} {x:t.den} (h:argSt r.obj t v=some x) (hv:RSV ι θ S w v V) (hq:hasOpq t=false) :
  lists t=1∧∃n,stName v=some n∧(∃o,r.obj n=some o)∧∀ιc m,ιc m=ι n→RSV ιc θ' Sx w (.t (.agg (ownCells t x m).1)) V∧∀k o,look (ownCells t x m).2 k=some o→ROb ιc θ' Sx w k o:=by
 unfold argSt at h
 split at h
 ·rename_i cs
  split at h
  ·rename_i x0 n hx
   obtain ⟨hl,h⟩:=bif_some h
   have hl:=Nat.eq_of_beq_eq_true hl
   cases h
   obtain ⟨us,rfl,hc⟩:=hv
   obtain ⟨v1,v2,Ls,e12,h1,h2,h3,h4,h5⟩:=ownC_ok hobs hx hc
   cases h1
   rw[List.append_nil] at e12
   subst e12
   obtain ⟨L,rfl⟩:∃L,Ls=[L]:=by
    match Ls,h2.trans hl with
    | [L],_=>exact ⟨L,rfl⟩
   cases L with
   | none=>cases h3
   | some n' =>
    obtain rfl:n=n':=by simpa using h3
    obtain ⟨e,ys,hn⟩:=h4 n (by simp)
    refine ⟨hl,n,?_,⟨_,hn⟩,fun ιc m hm=>?_⟩
    ·show (match cnames cs with | [n]=>some n | _=>none)=some n
     rw[ownC_names hx];rfl
    ·obtain ⟨g1,g2⟩:=h5 ιc m (fun i L hL=>by
      cases i with
      | zero=>cases hL;exact hm
      | succ i=>simp at hL)
     refine ⟨⟨us,rfl,g1.mono_mem fun c V hc hk=>RCV.conv2 (sh:=true) (ownCells_cv hq (fun _=>rfl) c hc) (fun _=>hs) (fun _ _=>rfl) hk⟩,fun k o hk=>?_⟩
     obtain ⟨e2,xs,e0,q1,q2⟩:=ownCells_obs (sh:=true) hq (fun _=>rfl) _ (look_mem hk)
     simp only at e0
     subst e0
     obtain ⟨z0,pp,cap,z1,z2,z3⟩:=g2 k _ hk
     refine ⟨z0,pp,cap,z1,z2,z3.imp id fun ⟨bb,off,y1,y2,y3⟩=>⟨bb,off,y1,y2,fun i v hv=>?_⟩⟩
     obtain ⟨ws,y4,y5⟩:=y3 i v hv
     exact ⟨ws,y4.conv (.inr hs) q1,y5⟩
  ·cases h
 ·cases h
set_option maxHeartbeats 1000000 in
theorem args_ok (B:Base P Γ θ w0 M0 S0) (W:RepW θ N w0 M0 S0 ι0 r ι S a w) {ob':Nat→Option Ob} (hs:∀b,S b→Sx b) (hob:∀n e xs,ob' n=some (.row e xs)→RepC θ Sx w (.lst e) xs [ι n]) :
  ∀ {ps:List (Ty×Nat)} {vs:List SV} {Vs:List Value} {i:Nat} {x:(prodTy (ps.map pTy)).den} {io:List Nat},argsIn r.obj ob' ps vs=some x→All2 (RSV ι θ S w) vs Vs→ioNames ps vs=some io→TokH w ι θ' ps vs →
   (ioMap i ps vs).map (·.2)=io∧io.Nodup∧(∀n o,look (parsOb i ps x) n=some o→∃m o',(n,m)∈ioMap i ps vs∧r.obj m=some o') ∧
    (∀p,p∈ioMap i ps vs→∃o o',look (parsOb i ps x) p.1=some o∧r.obj p.2=some o') ∧
    ∀ιc,(∀p,p∈ioMap i ps vs→ιc p.1=ι p.2)→All2 (RSV ιc θ' Sx w) (parsSV i ps x) Vs∧∀n o,look (parsOb i ps x) n=some o→ROb ιc θ' Sx w n o
 | [],[],Vs,i,x,io,h,hv,hio,_=>by
  cases hv
  cases hio
  exact ⟨rfl,by simp,fun n o h=>(by cases h),fun p hp=>(by simp[ioMap] at hp),fun ιc _=>⟨.nil,fun n o h=>(by cases h)⟩⟩
 | [],v :: vs,Vs,i,x,io,h,_,_,_=>by simp[argsIn] at h
 | p :: ps,[],Vs,i,x,io,h,_,_,_=>by simp[argsIn] at h
 | (t,0) :: ps,v :: vs,_,i,x,io,h,.cons (y:=V) (ys:=Vs) h1 h2,hio,hT=>by
  simp only[argsIn] at h
  split at h
  ·rename_i x1 hx1
   split at h
   ·rename_i xs hxs
    cases h
    have hio':ioNames ps vs=some io:=hio
    obtain ⟨g1,g2,g3,g4,g5⟩:=args_ok B W hs hob (i:=i+1) hxs h2 hio' hT.2
    refine ⟨g1,g2,g3,g4,fun ιc hc=>?_⟩
    obtain ⟨k1,k2⟩:=g5 ιc hc
    refine ⟨.cons ?_ k1,k2⟩
    have hx1':argVal ob' t v=some x1:=hx1
    clear hx1
    cases v with
    | tup _=>cases hx1'
    | t tv =>
     obtain ⟨us,u1,u2,_⟩:=denTV_ok hs hob B.one (show denTV ob' t tv=some x1 from hx1') h1
     have:=toTV_ok (ι:=ιc) (u1.conv (θ':=θ') (.inr fun _ h=>h) hT.1)
     rw[←u2] at this
     exact this
   ·cases h
  ·cases h
 | (t,1) :: ps,v :: vs,_,i,x,io,h,.cons (y:=V) (ys:=Vs) h1 h2,hio,hT=>by
  simp only[argsIn] at h
  split at h
  ·rename_i x1 hx1
   split at h
   ·rename_i xs hxs
    cases h
    have hio':ioBox v (ioNames ps vs)=some io:=hio
    clear hio
    unfold ioBox at hio'
    split at hio'
    ·rename_i n
     split at hio'
     ·rename_i io1 hio1
      obtain ⟨hm,hio⟩:=bifn_some hio'
      cases hio
      obtain ⟨g1,g2,g3,g4,g5⟩:=args_ok B W hs hob (i:=i+1) hxs h2 hio1 hT.2
      have hx1':argBox r.obj ob' t (.t (.one (.ref n 0)))=some x1:=hx1
      clear hx1
      simp only[argBox] at hx1'
      split at hx1'
      ·rename_i cs hcs
       split at hx1'
       ·rename_i x2 hx2
        cases hx1'
        obtain ⟨b,vs0,hι,hlt,hc,hat,hfr⟩:=W.obs n _ hcs
        obtain ⟨v1,v2,e12,hR,hnil⟩:=tokCells_ok (θ':=θ') W.one B.one hs hob hx2 hc (fun hq j V hV h1V=>by
         rw[Nat.zero_add]
         have:=hat j V hV
         rw[Nat.zero_add] at this
         exact hT.1 hq b hι j V this h1V)
        cases hnil
        rw[List.append_nil] at e12
        subst e12
        obtain ⟨b2,hb1,hb2⟩:=h1
        rw[hι] at hb1
        obtain rfl:b=b2:=by simpa using hb1
        have hpn:look (parsOb i ((t,1) :: ps) (x1,xs)) (pn i 0)=some (.box (toCells t x1)):=by
         simp[parsOb,parOb,look_append',look_cons]
        refine ⟨?_,?_,fun m o hm'=>?_,fun p hp=>?_,fun ιc hcc=>?_⟩
        ·simp only[ioMap,List.map_cons,g1]
        ·exact List.nodup_cons.2 ⟨(mem_false _ _).1 hm,g2⟩
        ·simp only[parsOb,parOb,look_append',look_cons] at hm'
         by_cases e:pn i 0=m
         ·subst e;exact ⟨n,_,by simp[ioMap],hcs⟩
         ·rw[if_neg e] at hm'
          obtain ⟨m2,o',h3,h4⟩:=g3 m o (by simpa [look] using hm')
          exact ⟨m2,o',by simp only[ioMap];exact List.mem_cons_of_mem _ h3,h4⟩
        ·simp only[ioMap] at hp
         rcases List.mem_cons.1 hp with rfl | hp
         ·exact ⟨_,_,hpn,hcs⟩
         ·obtain ⟨o,o',h3,h4⟩:=g4 p hp
          have hlt:=ioMap_lt hp
          refine ⟨o,o',?_,h4⟩
          simp only[parsOb,parOb,look_append',look_cons]
          rw[if_neg (by unfold pn at hlt ⊢;omega)]
          simpa [look] using h3
        ·have hc0:=hcc (pn i 0,n) (by simp[ioMap])
         obtain ⟨k1,k2⟩:=g5 ιc (fun p hp=>hcc p (by simp only[ioMap];exact List.mem_cons_of_mem _ hp))
         refine ⟨.cons ⟨b,hc0.trans hι,hb2⟩ k1,fun m o hm'=>?_⟩
         simp only[parsOb,parOb,look_append',look_cons] at hm'
         by_cases e:pn i 0=m
         ·subst e
          rw[if_pos rfl] at hm'
          cases hm'
          exact ⟨b,_,hc0.trans hι,hlt,hR.cells,hat,hfr⟩
         ·rw[if_neg e] at hm'
          exact k2 m o (by simpa [look] using hm')
       ·cases hx1'
      ·cases hx1'
     ·cases hio'
    ·cases hio'
   ·cases h
  ·cases h
 | (t,n0+4) :: ps,v :: vs,_,i,x,io,h,.cons (y:=V) (ys:=Vs) h1 h2,hio,hT=>by cases hio
 | (t,3) :: ps,v :: vs,_,i,x,io,h,.cons (y:=V) (ys:=Vs) h1 h2,hio,hT=>by
  simp only[argsIn] at h
  split at h
  ·rename_i x1 hx1
   split at h
   ·rename_i xs hxs
    cases h
    have hio':ioSt v (ioNames ps vs)=some io:=hio
    clear hio
    unfold ioSt at hio'
    split at hio'
    ·rename_i n io1 hn hio1
     obtain ⟨hm,hio⟩:=bifn_some hio'
     cases hio
     obtain ⟨g1,g2,g3,g4,g5⟩:=args_ok B W hs hob (i:=i+1) hxs h2 hio1 hT.2
     obtain ⟨hl,n2,hn2,⟨o2,ho2⟩,hV⟩:=argSt_ok (θ':=θ') W.one W.obs hs (show argSt r.obj t v=some x1 from hx1) h1 hT.1
     rw[hn] at hn2
     cases hn2
     obtain ⟨ys,hys⟩:=lists_one hl x1
     have hpo:parsOb i ((t,3) :: ps) (x1,xs)=(pn i 1,.row (lstE t) ys) :: parsOb (i+1) ps xs:=by
      show (ownCells t x1 (pn i 1)).2++parsOb (i+1) ps xs=_
      rw[hys];rfl
     have hmo:ioMap i ((t,3) :: ps) (v :: vs)=(pn i 1,n) :: ioMap (i+1) ps vs:=by
      simp only[ioMap,hn]
     rw[hmo,hpo]
     refine ⟨?_,?_,fun m o hm'=>?_,fun p hp=>?_,fun ιc hcc=>?_⟩
     ·rw[List.map_cons,g1]
     ·exact List.nodup_cons.2 ⟨(mem_false _ _).1 hm,g2⟩
     ·rw[look_cons] at hm'
      by_cases e:pn i 1=m
      ·subst e;exact ⟨n,_,by simp,ho2⟩
      ·rw[if_neg e] at hm'
       obtain ⟨m2,o',h3,h4⟩:=g3 m o hm'
       exact ⟨m2,o',List.mem_cons_of_mem _ h3,h4⟩
     ·rcases List.mem_cons.1 hp with rfl | hp
      ·exact ⟨_,_,by rw[look_cons,if_pos rfl],ho2⟩
      ·obtain ⟨o,o',h3,h4⟩:=g4 p hp
       have hlt:=ioMap_lt hp
       refine ⟨o,o',?_,h4⟩
       rw[look_cons,if_neg (by unfold pn at hlt ⊢;omega)]
       exact h3
     ·have hc0:=hcc (pn i 1,n) (by simp)
      obtain ⟨k1,k2⟩:=g5 ιc (fun p hp=>hcc p (List.mem_cons_of_mem _ hp))
      obtain ⟨k3,k4⟩:=hV ιc (pn i 1) hc0
      refine ⟨.cons k3 k1,fun m o hm'=>?_⟩
      rw[look_cons] at hm'
      by_cases e:pn i 1=m
      ·subst e
       rw[if_pos rfl] at hm'
       cases hm'
       exact k4 _ _ (by rw[hys,look_cons,if_pos rfl])
      ·rw[if_neg e] at hm'
       exact k2 m o hm'
    ·cases hio'
   ·cases h
  ·cases h
 | (e,2) :: ps,v :: vs,_,i,x,io,h,.cons (y:=V) (ys:=Vs) h1 h2,hio,hT=>by
  simp only[argsIn] at h
  split at h
  ·rename_i x1 hx1
   split at h
   ·rename_i xs hxs
    cases h
    have hio':ioRow v (ioNames ps vs)=some io:=hio
    clear hio
    unfold ioRow at hio'
    split at hio'
    ·rename_i n
     split at hio'
     ·rename_i io1 hio1
      obtain ⟨hm,hio⟩:=bifn_some hio'
      cases hio
      obtain ⟨g1,g2,g3,g4,g5⟩:=args_ok B W hs hob (i:=i+1) hxs h2 hio1 hT.2
      have hx1':listOf r.obj e (.sl n)=some x1:=hx1
      simp only[listOf] at hx1'
      split at hx1'
      ·rename_i e' xs' hn
       split at hx1'
       ·rename_i he
        subst he
        cases hx1'
        obtain ⟨h0,p0,cap,q1,q2,q3⟩:=W.obs n _ hn
        have hpo:parsOb i ((e',2) :: ps) (xs',xs)=(pn i 1,.row e' xs') :: parsOb (i+1) ps xs:=rfl
        have hmo:ioMap i ((e',2) :: ps) (.t (.one (.sl n)) :: vs)=(pn i 1,n) :: ioMap (i+1) ps vs:=rfl
        rw[hmo]
        refine ⟨?_,?_,fun m o hm'=>?_,fun p hp=>?_,fun ιc hcc=>?_⟩
        ·rw[List.map_cons,g1]
        ·exact List.nodup_cons.2 ⟨(mem_false _ _).1 hm,g2⟩
        ·have hm':look ((pn i 1,Ob.row e' xs') :: parsOb (i+1) ps xs) m=some o:=hm'
         rw[look_cons] at hm'
         by_cases e:pn i 1=m
         ·subst e;exact ⟨n,_,by simp,hn⟩
         ·rw[if_neg e] at hm'
          obtain ⟨m2,o',h3,h4⟩:=g3 m o hm'
          exact ⟨m2,o',List.mem_cons_of_mem _ h3,h4⟩
        ·rcases List.mem_cons.1 hp with rfl | hp
         ·exact ⟨.row e' xs',_,(by rw[look_cons,if_pos rfl]:look ((pn i 1,Ob.row e' xs') :: parsOb (i+1) ps xs) (pn i 1)=some (.row e' xs')),hn⟩
         ·obtain ⟨o,o',h3,h4⟩:=g4 p hp
          have hlt:=ioMap_lt hp
          refine ⟨o,o',?_,h4⟩
          show look ((pn i 1,Ob.row e' xs') :: parsOb (i+1) ps xs) p.1=some o
          rw[look_cons,if_neg (by unfold pn at hlt ⊢;omega)]
          exact h3
        ·have hc0:=hcc (pn i 1,n) (by simp)
         obtain ⟨k1,k2⟩:=g5 ιc (fun p hp=>hcc p (List.mem_cons_of_mem _ hp))
         refine ⟨.cons ((show V=ι n from h1).trans hc0.symm) k1,fun m o hm'=>?_⟩
         have hm':look ((pn i 1,Ob.row e' xs') :: parsOb (i+1) ps xs) m=some o:=hm'
         rw[look_cons] at hm'
         by_cases e:pn i 1=m
         ·subst e
          rw[if_pos rfl] at hm'
          cases hm'
          refine ⟨h0,p0,cap,hc0.trans q1,q2,q3.imp id fun ⟨b,off,z1,z2,z3⟩=>⟨b,off,z1,z2,fun j y hy=>?_⟩⟩
          obtain ⟨ws,c1,c2⟩:=z3 j y hy
          exact ⟨ws,c1.conv (.inr hs) hT.1,c2⟩
         ·rw[if_neg e] at hm'
          exact k2 m o hm'
       ·cases hx1'
      ·cases hx1'
     ·cases hio'
    ·cases hio'
   ·cases h
  ·cases h
end Go.VM
namespace Go.VM
open Go.RowKit
variable {P:Program} {Γ:Ctx} {θ θ':Nat→Value} {N:Nat} {w0:World} {M0 S0:Nat→Prop} {ι0:Nat→Value} {r:Env} {ι:Nat→Value} {S Sx:Nat→Prop} {a:Act} {w:World} {R:Type}
 {o:Oper} {K':Act→World→Prop} {Q:Exit→Act→World→Prop} {k:Env→Option R} {q:R} {cal:Cal Γ}
theorem toCells_nil:∀ {t:Ty} {x:t.den},cnames (toCells t x)=[]
 | .unit,_=>rfl
 | .pair a b,x=>by simp only[toCells,cnames_append,toCells_nil (t:=a),toCells_nil (t:=b),List.append_nil]
 | .int _,_=>rfl
 | .bool,_=>rfl
 | .str,_=>rfl
 | .lst _,_=>rfl
 | .opq,_=>rfl
 | .adr _,_=>rfl
 | .err,_=>rfl
 | .rd _,_=>rfl
theorem ownCells_names:∀ {t:Ty} {x:t.den} {m n:Nat},n∈cnames (ownCells t x m).1→n∈keys (ownCells t x m).2
 | .unit,_,_,_,h=>by cases h
 | .pair a b,x,m,n,h=>by
  simp only[ownCells,cnames_append,List.mem_append,keys_append'] at h ⊢
  exact h.imp ownCells_names ownCells_names
 | .int _,_,_,_,h=>by cases h
 | .bool,_,_,_,h=>by cases h
 | .str,_,_,_,h=>by cases h
 | .lst _,_,_,_,h=>h
 | .opq,_,_,_,h=>by cases h
 | .adr _,_,_,_,h=>by cases h
 | .err,_,_,_,h=>by cases h
 | .rd _,_,_,_,h=>by cases h
theorem mkTV_cells (t:Ty) (cs:List CV):∀c,c∈cellsOf (mkTV t cs)→c∈cs:=by
 intro c h
 unfold mkTV at h
 split at h
 ·exact h
 ·exact h
 ·split at h
  ·simpa [cellsOf] using h
  ·exact h
theorem mkTV_names {t:Ty} {cs:List CV} {n:Nat} (h:n∈(mkTV t cs).names):n∈cnames cs:=by
 unfold TV.names at h
 have key:∀l l':List CV,(∀c,c∈l→c∈l')→n∈cnames l→n∈cnames l':=fun l l' hs hn=>by
  have:∃c,c∈l∧n∈c.names:=by
   clear hs h
   induction l with
   | nil=>cases hn
   | cons c l ih =>
    simp only[cnames,List.mem_append] at hn
    rcases hn with hn | hn
    ·exact ⟨c,by simp,hn⟩
    ·obtain ⟨d,h1,h2⟩:=ih hn
     exact ⟨d,by simp[h1],h2⟩
  obtain ⟨c,h1,h2⟩:=this
  exact cnames_mem (hs c h1) h2
 exact key _ _ (mkTV_cells t cs) h
def NewO (sh:Bool) (o:Ob):Prop :=
 (∃e xs,o=.row e xs∧hasOpq e=false∧(hasLst e=true→sh=true))∨(∃(t:Ty) (x:t.den),o=.box (toCells t x)∧hasOpq t=false∧(hasLst t=true→sh=true))
theorem resC_cv {sh:Bool} {own:Nat} {t:Ty} {x:t.den} {m:Nat} (hk:hasOpq t=false) (hs:shareOne own t=true→sh=true) :
  (∀c,c∈cellsOf (resM own t (resC own t x m).1)→cvOk sh c)∧(∀n,n∈(resM own t (resC own t x m).1).names→n∈keys (resC own t x m).2)∧∀p,p∈(resC own t x m).2→NewO sh p.2:=by
 match own with
 | 0 =>
  refine ⟨fun c hc=>toCells_cv hk hs c (mkTV_cells _ _ c hc),fun n hn=>?_,fun p hp=>by cases hp⟩
  have:=mkTV_names hn
  simp only[resC,toCells_nil] at this
  cases this
 | 1 =>
  refine ⟨fun c hc=>ownCells_cv hk hs c (mkTV_cells _ _ c hc),fun n hn=>ownCells_names (mkTV_names hn),fun p hp=>.inl (ownCells_obs hk hs p hp)⟩
 | k+2 =>
  refine ⟨fun c hc=>?_,fun n hn=>?_,fun p hp=>?_⟩
  ·simp only[resC,resM,oneTV,cellsOf,List.mem_singleton] at hc
   subst hc;trivial
  ·simp only[resC,resM,oneTV,TV.names,cellsOf,cnames,CV.names,List.append_nil,List.mem_singleton] at hn
   subst hn;simp[resC,keys]
  ·simp only[resC,List.mem_singleton] at hp
   subst hp
   exact .inr ⟨t,x,rfl,hk,hs⟩
theorem resTV_cv {sh:Bool} {l:List Ty}:∀ {rs:List (Ty×Nat)} {y:(prodTy (rs.map (·.1)++l)).den} {m:Nat},resTok rs=true→(shares rs=true→sh=true) →
  (∀v,v∈(resTV rs l y m).1→(∀c,c∈cellsOf v→cvOk sh c)∧∀n,n∈v.names→n∈keys (resTV rs l y m).2.1) ∧
   (∀p,p∈(resTV rs l y m).2.1→NewO sh p.2)
 | [],_,_,_,_=>⟨fun v h=>(by cases h),fun p h=>(by cases h)⟩
 | (t,own) :: rs,y,m,hk,hs=>by
  simp only[resTok,Bool.and_eq_true,Bool.not_eq_true'] at hk
  have hs1:shares rs=true→sh=true:=fun h=>hs (by simp[shares,h])
  obtain ⟨g1,g2⟩:=resTV_cv (l:=l) (y:=y.2) (m:=m+(resC own t y.1 m).2.length) hk.2 hs1
  obtain ⟨c1,c2,c3⟩:=resC_cv (own:=own) (x:=y.1) (m:=m) hk.1 (sh:=sh) (fun h=>hs (by simp[shares,h]))
  simp only[resTV]
  refine ⟨fun v hv=>?_,fun p hp=>?_⟩
  ·rcases List.mem_cons.1 hv with rfl | hv
   ·refine ⟨c1,fun n hn=>?_⟩
    rw[keys_append']
    exact List.mem_append_left _ (c2 n hn)
   ·refine ⟨(g1 v hv).1,fun n hn=>?_⟩
    rw[keys_append']
    exact List.mem_append_right _ ((g1 v hv).2 n hn)
  ·rcases List.mem_append.1 hp with hp | hp
   ·exact c3 p hp
   ·exact g2 p hp
theorem RTV.conv2 {S':Nat→Prop} {ι':Nat→Value} {sh:Bool} {v:TV} {V:Value} (hc:∀c,c∈cellsOf v→cvOk sh c) (hs:sh=true→∀b,S b→S' b) (hi:∀n,n∈v.names→ι' n=ι n) (h:RTV ι θ S w v V):RTV ι' θ' S' w v V:=by
 cases v with
 | one c=>exact RCV.conv2 (hc c (by simp[cellsOf])) hs (fun n hn=>hi n (by simpa [TV.names,cellsOf,cnames] using hn)) h
 | agg cs =>
  obtain ⟨vs,e,k⟩:=h
  exact ⟨vs,e,k.mono_mem fun c V hm hk=>RCV.conv2 (hc c hm) hs (fun n hn=>hi n (cnames_mem hm hn)) hk⟩
theorem oneOf_conv {S':Nat→Prop} {ι':Nat→Value} {sh:Bool} {tvs:List TV} {V:Value} (hc:∀v,v∈tvs→∀c,c∈cellsOf v→cvOk sh c) (hs:sh=true→∀b,S b→S' b) (hi:∀v,v∈tvs→∀n,n∈v.names→ι' n=ι n)
  (h:RSV ι θ S w (oneOf tvs) V):RSV ι' θ' S' w (oneOf tvs) V:=by
 unfold oneOf at h ⊢
 split at h
 ·rename_i v
  exact RTV.conv2 (hc v (by simp)) hs (hi v (by simp)) h
 ·obtain ⟨us,e,k⟩:=h
  exact ⟨us,e,k.mono_mem fun v V hm hk=>RTV.conv2 (hc v hm) hs (hi v hm) hk⟩
theorem news_ok {ιc:Nat→Value}:∀ {obs:List (Nat×Ob)} {r:Env} {ι:Nat→Value},r.news obs k=some q→RepW θ N w0 M0 S0 ι0 r ι S a w→(keys obs).Nodup→(∀n o,(n,o)∈obs→o.names=[]∧ROb ιc θ S w n o∧(ιc n).oneCell'=true ∧
   ∀b,blk (ιc n)=some b→(¬S b∧(M0 b∨w0.heap.size≤b))∧∀m o',r.obj m=some o'→blk (ι m)≠some b)→(∀n m o o' b,(n,o)∈obs→(m,o')∈obs→blk (ιc n)=some b→blk (ιc m)=some b→n=m) →
  ∃r' ι',k r'=some q∧RepW θ N w0 M0 S0 ι0 r' ι' S a w∧Prot r r'∧(∀n,n∈keys obs→ι' n=ιc n)∧∀n,n ∉ keys obs→ι' n=ι n
 | [],r,ι,h,W,_,_,_=>⟨r,ι,h,W,.refl r,fun n h=>(by cases h),fun _ _=>rfl⟩
 | (n,o) :: obs,r,ι,h,W,hn,ho,hi=>by
  simp only[Env.news] at h
  simp only[keys,List.nodup_cons] at hn
  obtain ⟨hnm,h1,h2,h3⟩:=ho n o (by simp)
  obtain ⟨r1,g1,W1,p1,_,_,hsub⟩:=new_ok h2 h W (ROb.mono (fun _ h=>h) (fun _ _=>rfl) (Nat.le_refl _) (upd_same _ _ _) (fun m hm=>by rw[hnm] at hm;cases hm) (fun _ _=>rfl) h1) h3
  have hmem:∀m o',(m,o')∈obs→m∈keys obs:=fun m o' hm=>by
   clear g1 h ho hi hn
   induction obs with
   | nil=>cases hm
   | cons p obs ih =>
    rcases List.mem_cons.1 hm with rfl | hm
    ·simp[keys]
    ·simp[keys,ih hm]
  obtain ⟨r2,ι2,k1,k2,k3,k4,k5⟩:=news_ok (obs:=obs) g1 W1 hn.2 (fun m o' hm=>by
   obtain ⟨j1,j2,j3,j4⟩:=ho m o' (by simp[hm])
   refine ⟨j1,j2,j3,fun b hb=>⟨(j4 b hb).1,fun m2 o2 hm2 hb2=>?_⟩⟩
   by_cases e2:m2=n
   ·subst e2
    rw[upd_same] at hb2
    have:=hi m2 m o o' b (by simp) (by simp[hm]) hb2 hb
    exact hn.1 (this ▸ hmem m o' hm)
   ·rw[upd_ne e2] at hb2
    rw[hsub m2 e2] at hm2
    exact (j4 b hb).2 m2 o2 hm2 hb2) (fun n1 m1 o1 o2 b h1 h2=>hi n1 m1 o1 o2 b (by simp[h1]) (by simp[h2]))
  refine ⟨r2,ι2,k1,k2,p1.trans k3,fun m hm=>?_,fun m hm=>?_⟩
  ·simp only[keys,List.mem_cons] at hm
   by_cases hmk:m∈keys obs
   ·exact k4 m hmk
   ·rcases hm with rfl | hm
    ·rw[k5 m hmk,upd_same]
    ·exact absurd hm hmk
  ·simp only[keys,List.mem_cons,not_or] at hm
   rw[k5 m hm.2,upd_ne hm.1]
end Go.VM
namespace Go.VM
open Go.RowKit
variable {P:Program} {Γ:Ctx} {θ θ':Nat→Value} {N:Nat} {w0:World} {M0 S0:Nat→Prop} {ι0:Nat→Value} {r:Env} {ι:Nat→Value} {S Sx:Nat→Prop} {a:Act} {w:World} {R:Type}
 {o:Oper} {K':Act→World→Prop} {Q:Exit→Act→World→Prop} {k:Env→Option R} {q:R} {cal:Cal Γ}
theorem RepW.change2 {r':Env} {w':World} {S2:Nat→Prop} (W:RepW θ N w0 M0 S0 ι0 r ι S a w) (D:Nat→Prop) (hs:∀b,S b→S2 b) (hn2:∀b,S2 b→S b∨w.heap.size≤b) (hlt:∀b,S2 b→b<w'.heap.size)
  (hos:w'.os=w.os) (htp:w'.tape=w.tape) (hou:w'.output=w.output) (hz:w.heap.size≤w'.heap.size)
  (hB:∀b,b<w.heap.size→(∀n o,D n→r.obj n=some o→blk (ι n)≠some b)→w'.heap[b]? = w.heap[b]?)
  (htm:r'.tm=r.tm) (hob:∀n o,¬D n→r'.obj n=some o→r.obj n=some o)
  (hD:∀n o,D n→r'.obj n=some o→ROb ι θ S2 w' n o∧∃o',r.obj n=some o'):RepW θ N w0 M0 S0 ι0 r' ι S2 a w':=by
 have hS:Same S w w':=fun b hb=>hB b (W.sb b hb) fun n o _ ho e=>(W.own n o b ho e).1 hb
 have hex:∀n o,r'.obj n=some o→∃o',r.obj n=some o':=fun n o ho=>by
  by_cases hn:D n
  ·exact (hD n o hn ho).2
  ·exact ⟨o,hob n o hn ho⟩
 refine ⟨fun b hb=>hs b (W.s0 b hb),fun b hb=>?_,hlt,fun t v hv=>?_,fun n o ho=>?_,fun n o b ho hb=>?_,fun n m o o' b hn hm hbn hbm=>?_,?_,W.size,W.one,W.fx,W.dfs⟩
 ·rcases hn2 b hb with h | h
  ·exact W.sn b h
  ·exact .inr (.inr (Nat.le_trans W.keep.size h))
 ·exact RSV.mono hs hS (fun _ _=>rfl) (W.tms t v (by unfold Env.get at hv ⊢;rw[←htm];exact hv))
 ·by_cases hn:D n
  ·exact (hD n o hn ho).1
  ·have ho':=hob n o hn ho
   exact ROb.mono hs hS hz rfl (fun _ _=>rfl) (fun b hb=>hB b (W.blk_lt ho' hb) fun m om hm hom e=>hn (W.inj m n om o b hom ho' e hb ▸ hm)) (W.obs n o ho')
 ·obtain ⟨o',ho'⟩:=hex n o ho
  refine ⟨fun h=>?_,(W.own n o' b ho' hb).2⟩
  rcases hn2 b h with h | h
  ·exact (W.own n o' b ho' hb).1 h
  ·have:=W.blk_lt ho' hb
   omega
 ·obtain ⟨p,hp⟩:=hex n o hn
  obtain ⟨p',hp'⟩:=hex m o' hm
  exact W.inj n m p p' b hp hp' hbn hbm
 ·refine ⟨hos.trans W.keep.os,htp.trans W.keep.tape,hou.trans W.keep.output,Nat.le_trans W.keep.size hz,fun k hk hm=>?_⟩
  rw[hB k (Nat.lt_of_lt_of_le hk W.keep.size) fun n o _ ho e=>?_]
  ·exact W.keep.block k hk hm
  ·rcases (W.own n o k ho e).2 with h | h
   ·exact hm h
   ·omega
theorem All2.at' {α β:Type} {Q:α→β→Prop} {xs:List α} {ys:List β} (h:All2 Q xs ys):∀ {i:Nat} {x:α},xs[i]? = some x→∃y,ys[i]? = some y∧Q x y:=by
 induction h with
 | nil=>intro i x h;simp at h
 | cons h hs ih=>intro i x e;cases i with
  | zero=>cases e;exact ⟨_,rfl,h⟩
  | succ i=>obtain ⟨y,h1,h2⟩:=ih (by simpa using e);exact ⟨y,by simpa using h1,h2⟩
def BC (old:List CV):(t:Ty)→t.den→Nat→List CV→Prop
 | .pair a b,x,m,cs=>∃p q,cs=p++q∧BC old a x.1 m p∧BC old b x.2 (m+a.size) q
 | .opq,n,m,cs=>∃c,old[m]? = some c∧okC c=true∧n=m∧cs=[c]
 | .lst e,x,_,cs=>hasOpq e=false∧cs=toCells (.lst e) x
 | .adr e,x,_,cs=>hasOpq e=false∧cs=toCells (.adr e) x
 | .rd e,x,_,cs=>hasOpq e=false∧cs=toCells (.rd e) x
 | t,x,_,cs=>cs=toCells t x
theorem backCells_bc {old:List CV}:∀ {t:Ty} {x:t.den} {m:Nat} {k:List CV→Option R},backCells old t x m k=some q→∃cs,BC old t x m cs∧k cs=some q
 | .pair a b,x,m,k,h=>by
  simp only[backCells] at h
  obtain ⟨p,h1,h⟩:=backCells_bc h
  obtain ⟨p',h2,h⟩:=backCells_bc h
  exact ⟨_,⟨p,p',rfl,h1,h2⟩,h⟩
 | .opq,n,m,k,h=>by
  simp only[backCells] at h
  split at h
  ·rename_i c rest hd
   obtain ⟨hc,h⟩:=bif_some h
   obtain ⟨hn,h⟩:=grd_some h
   refine ⟨[c],⟨c,?_,hc,of_decide_eq_true hn,rfl⟩,h⟩
   have:(old.drop m)[0]? = some c:=by rw[hd];rfl
   simpa using this
  ·cases h
 | .lst e,x,m,k,h=>by
  simp only[backCells] at h
  obtain ⟨hc,h⟩:=bifn_some h
  exact ⟨_,⟨hc,rfl⟩,h⟩
 | .adr e,x,m,k,h=>by
  simp only[backCells] at h
  obtain ⟨hc,h⟩:=bifn_some h
  exact ⟨_,⟨hc,rfl⟩,h⟩
 | .rd e,x,m,k,h=>by
  simp only[backCells] at h
  obtain ⟨hc,h⟩:=bifn_some h
  exact ⟨_,⟨hc,rfl⟩,h⟩
 | .unit,x,m,k,h=>⟨_,rfl,h⟩
 | .int _,x,m,k,h=>⟨_,rfl,h⟩
 | .bool,x,m,k,h=>⟨_,rfl,h⟩
 | .str,x,m,k,h=>⟨_,rfl,h⟩
 | .err,x,m,k,h=>⟨_,rfl,h⟩
theorem bc_ok {old:List CV} {ιc:Nat→Value} {S1 S2:Nat→Prop}:∀ {t:Ty} {x:t.den} {m:Nat} {cs:List CV} {vs:List Value},(hasOpq t=true→∀j c,old[j]? = some c→okC c=true→RCV ι θ S2 w c (θ' j))→(hasLst t=true→∀b,S1 b→S2 b) →
  BC old t x m cs→All2 (RCV ιc θ' S1 w) (toCells t x) vs→All2 (RCV ι θ S2 w) cs vs
 | .pair a b,x,m,cs,vs,hθ,hs,⟨p,p',e,h1,h2⟩,hc=>by
  subst e
  obtain ⟨v1,v2,rfl,c1,c2⟩:=All2.split hc
  exact (bc_ok (fun h=>hθ (by simp[hasOpq,h])) (fun h=>hs (by simp[hasLst,h])) h1 c1).append (bc_ok (fun h=>hθ (by simp[hasOpq,h])) (fun h=>hs (by simp[hasLst,h])) h2 c2)
 | .opq,n,m,cs,_,hθ,hs,⟨c,h1,h2,h3,h4⟩,.cons c1 .nil=>by
  subst h3;subst h4
  have e:_=θ' n:=c1
  exact .cons (e ▸ hθ rfl n c h1 h2) .nil
 | .lst e,x,m,cs,_,hθ,hs,⟨h1,h2⟩,.cons c1 .nil=>by
  subst h2
  exact .cons (RepC.conv (.inr (hs rfl)) (by simpa [hasOpq] using h1) c1) .nil
 | .rd e,x,m,cs,_,hθ,hs,⟨h1,h2⟩,.cons c1 .nil=>by
  subst h2
  exact .cons (RepC.conv (t:=.lst e) (.inr (hs rfl)) (by simpa [hasOpq] using h1) c1) .nil
 | .adr e,x,m,cs,_,hθ,hs,⟨h1,h2⟩,.cons c1 .nil=>by
  subst h2
  obtain ⟨b,o,ws,k1,k2,k3,k4⟩:=c1
  exact .cons ⟨b,o,ws,k1,hs rfl b k2,k3.conv (.inr (hs rfl)) (by simpa [hasOpq] using h1),k4⟩ .nil
 | .unit,x,m,cs,_,_,_,h,.nil=>by rw[show cs=[] from h];exact .nil
 | .int _,x,m,cs,_,_,_,h,.cons c1 .nil=>by rw[show cs=_ from h];exact .cons c1 .nil
 | .bool,x,m,cs,_,_,_,h,.cons c1 .nil=>by rw[show cs=_ from h];exact .cons c1 .nil
 | .str,x,m,cs,_,_,_,h,.cons c1 .nil=>by rw[show cs=_ from h];exact .cons c1 .nil
 | .err,x,m,cs,_,_,_,h,.cons c1 .nil=>by rw[show cs=_ from h];exact .cons c1 .nil
theorem upd_spec {n:Nat} {o:Ob} (h:r.upd n o k=some q):∃r',k r'=some q∧Prot r r'∧r'.tm=r.tm∧r'.obj n=some o∧∀m,m≠n→r'.obj m=r.obj m:=by
 obtain ⟨hf,h⟩:=bif_some h
 simp only[Bool.not_eq_true',mem_false] at hf
 have hg:∀s,Env.obj { r with ob:=(n,o) :: del n r.ob } s=if n=s then some o else r.obj s:=fun s=>by
  show look _ _=_
  rw[look_cons,look_del]
  by_cases e:n=s
  ·rw[if_pos e,if_pos e]
  ·rw[if_neg e,if_neg e,if_neg e];rfl
 exact ⟨_,h,⟨rfl,rfl,fun _ _=>rfl,fun m hm=>by rw[hg,if_neg (show ¬n=m from fun e=>hf (e ▸ hm))]⟩,rfl,by rw[hg,if_pos rfl],fun m hm=>by rw[hg,if_neg (Ne.symm hm)]⟩
inductive BackO (w:World) (ι θ':Nat→Value) (sh:Bool) (n:Nat) (old new out:Option Ob):Prop
 | row (e:Ty) (xs:List e.den):out=some (.row e xs)→new=some (.row e xs)→hasOpq e=false→(hasLst e=true→sh=true)→BackO w ι θ' sh n old new out
 | box (t:Ty) (x:t.den) (oc cs:List CV):out=some (.box (toCells t x))→old=some (.box oc)→BC oc t x 0 cs→new=some (.box cs)→(hasLst t=true→sh=true) →
   (hasOpq t=true→∀b,ι n=.pointer (some ⟨b,0,none⟩)→∀j V,w.cell? ⟨b,j,none⟩=some V→V.oneCell'=true→θ' j=V)→BackO w ι θ' sh n old new out
theorem BackO.mono {sh sh':Bool} {n:Nat} {old old' new new' out out':Option Ob} (hs:sh=true→sh'=true) (h1:old=old') (h2:new=new') (h3:out=out') (h:BackO w ι θ' sh n old new out):BackO w ι θ' sh' n old' new' out':=by
 subst h1;subst h2;subst h3
 cases h with
 | row e xs a b c d=>exact .row e xs a b c fun h=>hs (d h)
 | box t x oc cs a b c d e f=>exact .box t x oc cs a b c d (fun h=>hs (e h)) f
theorem back_one {t:Ty} {ps:List (Ty×Nat)} {v:SV} {vs:List SV} (x:t.den×(prodTy (ioTys ps)).den):r.back ((t,1) :: ps) (v :: vs) x k=(match v with
  | .t (.one (.ref n _))=>match r.obj n with
   | some (.box old)=>backCells old t x.1 0 fun cs=>r.upd n (.box cs) fun r'=>r'.back ps vs x.2 k
   | _=>none
  | _=>none):=rfl
theorem back_two {e:Ty} {ps:List (Ty×Nat)} {v:SV} {vs:List SV} (x:List e.den×(prodTy (ioTys ps)).den):r.back ((e,2) :: ps) (v :: vs) x k=(match v with
  | .t (.one (.sl n))=>r.upd n (.row e x.1) fun r'=>r'.back ps vs x.2 k
  | _=>none):=rfl
theorem back_three {t:Ty} {ps:List (Ty×Nat)} {v:SV} {vs:List SV} (x:List (lstE t).den×(prodTy (ioTys ps)).den):r.back ((t,3) :: ps) (v :: vs) x k=(match stName v with
  | some n=>r.upd n (.row (lstE t) x.1) fun r'=>r'.back ps vs x.2 k
  | none=>none):=rfl
theorem back_spec:∀ {ps:List (Ty×Nat)} {vs:List SV} {i:Nat} {x:(prodTy (ioTys ps)).den} {r:Env},r.back ps vs x k=some q→((ioMap i ps vs).map (·.2)).Nodup→TokH w ι θ' ps vs →
  ∃r',k r'=some q∧Prot r r'∧r'.tm=r.tm∧(∀m,m ∉ (ioMap i ps vs).map (·.2)→r'.obj m=r.obj m) ∧
   ∀p,p∈ioMap i ps vs→BackO w ι θ' (ioShares ps) p.2 (r.obj p.2) (r'.obj p.2) (look (ioObs i ps x) p.1)
 | [],[],i,x,r,h,_,_=>⟨r,h,.refl r,rfl,fun _ _=>rfl,fun p hp=>by simp[ioMap] at hp⟩
 | [],v :: vs,i,x,r,h,_,_=>by simp[Env.back] at h
 | (t,0) :: ps,[],i,x,r,h,_,_=>by simp[Env.back] at h
 | (t,1) :: ps,[],i,x,r,h,_,_=>by simp[Env.back] at h
 | (t,2) :: ps,[],i,x,r,h,_,_=>by simp[Env.back] at h
 | (t,3) :: ps,[],i,x,r,h,_,_=>by simp[Env.back] at h
 | (t,n+4) :: ps,[],i,x,r,h,_,_=>by simp[Env.back] at h
 | (t,n+4) :: ps,v :: vs,i,x,r,h,_,_=>by simp[Env.back] at h
 | (t,3) :: ps,v :: vs,i,x,r,h,hn,hT=>by
  replace h:=(back_three (r:=r) (k:=k) (v:=v) (vs:=vs) (t:=t) x).symm.trans h
  split at h
  ·rename_i n hsn
   obtain ⟨r1,u1,u2,u3,u4,u5⟩:=upd_spec h
   have hm0:ioMap i ((t,3) :: ps) (v :: vs)=(pn i 1,n) :: ioMap (i+1) ps vs:=by simp only[ioMap,hsn]
   rw[hm0] at hn ⊢
   simp only[List.map_cons,List.nodup_cons] at hn
   obtain ⟨r2,g1,g2,g3,g4,g5⟩:=back_spec (ps:=ps) (vs:=vs) (i:=i+1) (x:=x.2) u1 hn.2 hT.2
   have hs:ioShares ps=true→ioShares ((t,3) :: ps)=true:=fun h=>by simp[ioShares,h]
   refine ⟨r2,g1,u2.trans g2,g3.trans u3,fun m hm=>?_,fun p hp=>?_⟩
   ·simp only[List.map_cons,List.mem_cons,not_or] at hm
    rw[g4 m hm.2,u5 m hm.1]
   ·rcases List.mem_cons.1 hp with rfl | hp
    ·refine .row (lstE t) x.1 ?_ ?_ (lstE_opq hT.1) (fun h=>by simp[ioShares,h])
     ·simp only[ioObs];rw[look_cons,if_pos rfl]
     ·show r2.obj n=_
      rw[g4 n hn.1,u4]
    ·have hlt:=ioMap_lt hp
     have hne:p.2≠n:=fun e=>hn.1 (e ▸ List.mem_map_of_mem hp)
     refine (g5 p hp).mono hs (u5 _ hne) rfl ?_
     simp only[ioObs]
     rw[look_cons,if_neg (by unfold pn at hlt ⊢;omega)]
  ·cases h
 | (t,0) :: ps,v :: vs,i,x,r,h,hn,hT=>by
  simp only[Env.back] at h
  obtain ⟨r1,g1,g2,g3,g4,g5⟩:=back_spec (ps:=ps) (vs:=vs) (i:=i+1) (x:=x) h hn hT.2
  exact ⟨r1,g1,g2,g3,g4,g5⟩
 | (t,1) :: ps,v :: vs,i,x,r,h,hn,hT=>by
  replace h:=(back_one (r:=r) (k:=k) (v:=v) (vs:=vs) (t:=t) x).symm.trans h
  split at h
  ·rename_i n off
   split at h
   ·rename_i old hold
    obtain ⟨cs,hbc,h⟩:=backCells_bc h
    obtain ⟨r1,u1,u2,u3,u4,u5⟩:=upd_spec h
    simp only[ioMap,List.map_cons,List.nodup_cons] at hn
    obtain ⟨r2,g1,g2,g3,g4,g5⟩:=back_spec (ps:=ps) (vs:=vs) (i:=i+1) (x:=x.2) u1 hn.2 hT.2
    have hs:ioShares ps=true→ioShares ((t,1) :: ps)=true:=fun h=>by simp[ioShares,h]
    refine ⟨r2,g1,u2.trans g2,g3.trans u3,fun m hm=>?_,fun p hp=>?_⟩
    ·simp only[ioMap,List.map_cons,List.mem_cons,not_or] at hm
     rw[g4 m hm.2,u5 m hm.1]
    ·simp only[ioMap] at hp
     rcases List.mem_cons.1 hp with rfl | hp
     ·refine .box t x.1 old cs ?_ hold hbc ?_ (fun h=>by simp[ioShares,h]) hT.1
      ·simp only[ioObs];rw[look_cons,if_pos rfl]
      ·show r2.obj n=_
       rw[g4 n hn.1,u4]
     ·have hlt:=ioMap_lt hp
      have hne:p.2≠n:=fun e=>hn.1 (e ▸ List.mem_map_of_mem hp)
      refine (g5 p hp).mono hs (u5 _ hne) rfl ?_
      simp only[ioObs]
      rw[look_cons,if_neg (by unfold pn at hlt ⊢;omega)]
   ·cases h
  ·cases h
 | (e,2) :: ps,v :: vs,i,x,r,h,hn,hT=>by
  replace h:=(back_two (r:=r) (k:=k) (v:=v) (vs:=vs) (e:=e) x).symm.trans h
  split at h
  ·rename_i n
   obtain ⟨r1,u1,u2,u3,u4,u5⟩:=upd_spec h
   have hm0:ioMap i ((e,2) :: ps) (.t (.one (.sl n)) :: vs)=(pn i 1,n) :: ioMap (i+1) ps vs:=rfl
   rw[hm0] at hn ⊢
   simp only[List.map_cons,List.nodup_cons] at hn
   obtain ⟨r2,g1,g2,g3,g4,g5⟩:=back_spec (ps:=ps) (vs:=vs) (i:=i+1) (x:=x.2) u1 hn.2 hT.2
   have hs:ioShares ps=true→ioShares ((e,2) :: ps)=true:=fun h=>by simp[ioShares,h]
   refine ⟨r2,g1,u2.trans g2,g3.trans u3,fun m hm=>?_,fun p hp=>?_⟩
   ·simp only[List.map_cons,List.mem_cons,not_or] at hm
    rw[g4 m hm.2,u5 m hm.1]
   ·rcases List.mem_cons.1 hp with rfl | hp
    ·refine .row e x.1 ?_ ?_ hT.1 (fun h=>by simp[ioShares,h])
     ·simp only[ioObs];rw[look_cons,if_pos rfl]
     ·show r2.obj n=_
      rw[g4 n hn.1,u4]
    ·have hlt:=ioMap_lt hp
     have hne:p.2≠n:=fun e=>hn.1 (e ▸ List.mem_map_of_mem hp)
     refine (g5 p hp).mono hs (u5 _ hne) rfl ?_
     simp only[ioObs]
     rw[look_cons,if_neg (by unfold pn at hlt ⊢;omega)]
  ·cases h
def tokθ (w:World) (V:Value) (j:Nat):Value :=
 match V with
 | .pointer (some a)=>match w.cell? ⟨a.block,j,none⟩ with
  | some V=>if V.oneCell'=true then V else .nilFunc
  | none=>.nilFunc
 | _=>.nilFunc
theorem tokθ_one (V:Value) (j:Nat):(tokθ w V j).oneCell'=true:=by
 unfold tokθ
 split
 ·split
  ·split
   ·assumption
   ·rfl
  ·rfl
 ·rfl
theorem tok_zero:∀ {ps:List (Ty×Nat)} {vs:List SV},tokB ps=0→TokH w ι θ' ps vs
 | [],_,_=>by unfold TokH;trivial
 | (t,0) :: ps,[],_=>by unfold TokH;trivial
 | (t,1) :: ps,[],_=>by unfold TokH;trivial
 | (t,n+2) :: ps,[],_=>by unfold TokH;trivial
 | (t,0) :: ps,v :: vs,h=>by
  simp only[tokB,Nat.add_eq_zero_iff] at h
  refine ⟨?_,tok_zero h.2⟩
  cases hq:hasOpq t with
  | false=>rfl
  | true=>rw[hq] at h;simp at h
 | (t,n+2) :: ps,v :: vs,h=>by
  simp only[tokB,Nat.add_eq_zero_iff] at h
  refine ⟨?_,tok_zero h.2⟩
  cases hq:hasOpq t with
  | false=>rfl
  | true=>rw[hq] at h;simp at h
 | (t,1) :: ps,v :: vs,h=>by
  simp only[tokB,Nat.add_eq_zero_iff] at h
  refine ⟨?_,tok_zero h.2⟩
  split
  ·intro hq
   rw[hq] at h;simp at h
  ·trivial
theorem tok_ok (w:World) (ι:Nat→Value):∀(ps:List (Ty×Nat)) (vs:List SV),tokB ps≤1→∃θ':Nat→Value,(∀n,(θ' n).oneCell'=true)∧TokH w ι θ' ps vs
 | [],vs,_=>⟨fun _=>.nilFunc,fun _=>rfl,by unfold TokH;trivial⟩
 | (t,0) :: ps,[],_=>⟨fun _=>.nilFunc,fun _=>rfl,by unfold TokH;trivial⟩
 | (t,1) :: ps,[],_=>⟨fun _=>.nilFunc,fun _=>rfl,by unfold TokH;trivial⟩
 | (t,n+2) :: ps,[],_=>⟨fun _=>.nilFunc,fun _=>rfl,by unfold TokH;trivial⟩
 | (t,0) :: ps,v :: vs,h=>by
  simp only[tokB] at h
  obtain ⟨θ',g1,g2⟩:=tok_ok w ι ps vs bo%
  refine ⟨θ',g1,?_,g2⟩
  cases hq:hasOpq t with
  | false=>rfl
  | true=>rw[hq] at h;simp at h;omega
 | (t,n+2) :: ps,v :: vs,h=>by
  simp only[tokB] at h
  obtain ⟨θ',g1,g2⟩:=tok_ok w ι ps vs bo%
  refine ⟨θ',g1,?_,g2⟩
  cases hq:hasOpq t with
  | false=>rfl
  | true=>rw[hq] at h;simp at h;omega
 | (t,1) :: ps,v :: vs,h=>by
  simp only[tokB] at h
  cases hq:hasOpq t with
  | false =>
   rw[hq] at h
   obtain ⟨θ',g1,g2⟩:=tok_ok w ι ps vs (by simpa using h)
   refine ⟨θ',g1,?_,g2⟩
   split
   ·intro h;rw[hq] at h;cases h
   ·trivial
  | true =>
   rw[hq] at h
   have h0:tokB ps=0:=by simp only[cond_true] at h;omega
   by_cases hv:∃n off,v=.t (.one (.ref n off))
   ·obtain ⟨n,off,rfl⟩:=hv
    refine ⟨tokθ w (ι n),tokθ_one _,fun _ b hb j V hV h1=>?_,tok_zero h0⟩
    simp only[tokθ,hb,hV,h1,if_true]
   ·refine ⟨fun _=>.nilFunc,fun _=>rfl,?_,tok_zero h0⟩
    split
    ·rename_i n off;exact absurd ⟨n,off,rfl⟩ hv
    ·trivial
end Go.VM
namespace Go.VM
open Go.RowKit
variable {P:Program} {Γ:Ctx} {θ θ':Nat→Value} {N:Nat} {w0:World} {M0 S0:Nat→Prop} {ι0:Nat→Value} {r:Env} {ι:Nat→Value} {S Sx:Nat→Prop} {a:Act} {w:World} {R:Type}
 {o:Oper} {K':Act→World→Prop} {Q:Exit→Act→World→Prop} {k:Env→Option R} {q:R} {cal:Cal Γ}
theorem look_ioMap:∀ {ps:List (Ty×Nat)} {vs:List SV} {i:Nat} {p:Nat×Nat},p∈ioMap i ps vs→look (ioMap i ps vs) p.1=some p.2
 | [],vs,i,p,h=>by cases vs <;> simp[ioMap] at h
 | (t,0) :: ps,[],i,p,h=>by simp[ioMap] at h
 | (t,1) :: ps,[],i,p,h=>by simp[ioMap] at h
 | (t,2) :: ps,[],i,p,h=>by simp[ioMap] at h
 | (t,n+3) :: ps,[],i,p,h=>by simp[ioMap] at h
 | (t,0) :: ps,v :: vs,i,p,h=>look_ioMap (ps:=ps) (vs:=vs) (i:=i+1) h
 | (t,1) :: ps,v :: vs,i,p,h=>by
  simp only[ioMap] at h ⊢
  split at h
  ·rcases List.mem_cons.1 h with rfl | h
   ·rw[look_cons,if_pos rfl]
   ·have hlt:=ioMap_lt h
    rw[look_cons,if_neg (by unfold pn at hlt ⊢;omega)]
    exact look_ioMap h
  ·exact look_ioMap h
 | (t,n+3) :: ps,v :: vs,i,p,h=>by
  simp only[ioMap] at h ⊢
  split at h
  ·rcases List.mem_cons.1 h with rfl | h
   ·rw[look_cons,if_pos rfl]
   ·have hlt:=ioMap_lt h
    rw[look_cons,if_neg (by unfold pn at hlt ⊢;omega)]
    exact look_ioMap h
  ·exact look_ioMap h
 | (t,2) :: ps,v :: vs,i,p,h=>by
  simp only[ioMap] at h ⊢
  split at h
  ·rcases List.mem_cons.1 h with rfl | h
   ·rw[look_cons,if_pos rfl]
   ·have hlt:=ioMap_lt h
    rw[look_cons,if_neg (by unfold pn at hlt ⊢;omega)]
    exact look_ioMap h
  ·exact look_ioMap h
theorem nodup_snd:∀ {l:List (Nat×Nat)} {n m j:Nat},(l.map (·.2)).Nodup→(n,j)∈l→(m,j)∈l→n=m
 | [],_,_,_,_,h,_=>by cases h
 | p :: l,n,m,j,hn,h1,h2=>by
  simp only[List.map_cons,List.nodup_cons] at hn
  rcases List.mem_cons.1 h1 with e1 | i1 <;> rcases List.mem_cons.1 h2 with e2 | i2
  ·rw[←e2] at e1;exact (Prod.mk.inj e1).1
  ·subst e1;exact absurd (List.mem_map.2 ⟨(m,j),i2,rfl⟩:j∈l.map (·.2)) hn.1
  ·subst e2;exact absurd (List.mem_map.2 ⟨(n,j),i1,rfl⟩:j∈l.map (·.2)) hn.1
  ·exact nodup_snd hn.2 i1 i2
theorem keys_mem2 {α:Type}:∀ {l:List (Nat×α)} {p:Nat×α},p∈l→p.1∈keys l
 | [],p,h=>by cases h
 | (n,v) :: l,p,h=>by
  rcases List.mem_cons.1 h with rfl | h
  ·simp[keys]
  ·simp[keys,keys_mem2 h]
theorem look_mem' {α:Type}:∀ {l:List (Nat×α)} {p:Nat×α},(keys l).Nodup→p∈l→look l p.1=some p.2
 | [],p,_,h=>by cases h
 | (n,v) :: l,p,hn,h=>by
  simp only[keys,List.nodup_cons] at hn
  rw[look_cons]
  rcases List.mem_cons.1 h with rfl | h
  ·rw[if_pos rfl]
  ·rw[if_neg (fun e=>hn.1 (by rw[show n=p.1 from e];exact keys_mem2 h))]
   exact look_mem' hn.2 h
def KeysUp {α:Type} (l:List (Nat×α)) (m:Nat):Prop:=(keys l).Nodup∧∀n,n∈keys l→m≤n∧n<m+l.length
theorem KeysUp.append {α:Type} {l l':List (Nat×α)} {m:Nat} (h:KeysUp l m) (h':KeysUp l' (m+l.length)):KeysUp (l++l') m:=by
 constructor
 ·rw[keys_append']
  refine List.nodup_append.2 ⟨h.1,h'.1,fun n hn k hk e=>?_⟩
  have:=h.2 n hn
  have:=h'.2 k hk
  omega
 ·intro n hn
  rw[keys_append',List.mem_append] at hn
  rw[List.length_append]
  rcases hn with hn | hn
  ·have:=h.2 n hn;omega
  ·have:=h'.2 n hn;omega
theorem KeysUp.nil {α:Type} {m:Nat}:KeysUp ([]:List (Nat×α)) m:=⟨List.nodup_nil,fun n h=>by cases h⟩
theorem ownCells_up:∀ {t:Ty} {x:t.den} {m:Nat},KeysUp (ownCells t x m).2 m
 | .unit,_,_=>.nil
 | .pair a b,x,m=>(ownCells_up (t:=a)).append ownCells_up
 | .int _,_,_=>.nil
 | .bool,_,_=>.nil
 | .str,_,_=>.nil
 | .lst _,_,m=>⟨by simp[ownCells,keys],fun n h=>by simp only[ownCells,keys,List.mem_singleton] at h;subst h;simp[ownCells]⟩
 | .opq,_,_=>.nil
 | .adr _,_,_=>.nil
 | .err,_,_=>.nil
 | .rd _,_,_=>.nil
theorem resTV_up {l:List Ty}:∀ {rs:List (Ty×Nat)} {y:(prodTy (rs.map (·.1)++l)).den} {m:Nat},KeysUp (resTV rs l y m).2.1 m
 | [],_,_=>.nil
 | (t,own) :: rs,y,m=>by
  simp only[resTV]
  refine KeysUp.append ?_ (resTV_up (rs:=rs))
  match own with
  | 0=>exact .nil
  | 1=>exact ownCells_up
  | _+2=>exact ⟨by simp[resC,keys],fun n h=>by simp only[resC,keys,List.mem_singleton] at h;subst h;simp[resC]⟩
def callι (l:List (Nat×Nat)) (ι:Nat→Value) (n:Nat):Value:=match look l n with
 | some m=>ι m
 | none=>ι n
set_option maxHeartbeats 2000000 in
theorem callW_ok (B:Base P Γ θ w0 M0 S0) (hC:∀g,FnOk P Γ g (Γ.ent g).sg (cal g)) (W:RepW θ N w0 M0 S0 ι0 r ι S a w) {g:Nat} {ob':Nat→Option Ob} {vs:List SV} {Vs:List Value} {io:List Nat}
  (hs:∀b,S b→Sx b) (hob:∀n e xs,ob' n=some (.row e xs)→RepC θ Sx w (.lst e) xs [ι n]) (hSx:∀b,Sx b→b<w.heap.size) (hSo:∀m o b,m∈io→r.obj m=some o→blk (ι m)=some b→¬Sx b)
  (hsh:(shares (Γ.ent g).sg.rs||ioShares (Γ.ent g).sg.ps)=true→∀b,Sx b→S b) (hok:(Γ.ent g).sg.ok=true) (hv:All2 (RSV ι θ S w) vs Vs) (hio:ioNames (Γ.ent g).sg.ps vs=some io)
  (h:r.callW Γ N cal o.dst g ob' vs k=some q) (hcall:(execOp a.eval o).run P w=(callFunc g ⟨Vs⟩).run P w) (hK:Out θ N w0 M0 S0 ι0 k q r K'):o.wp P a w K' Q:=by
 unfold Env.callW at h
 split at h
 ·cases h
 ·rename_i x hx
  obtain ⟨y,hy,h⟩:=Option.bind_eq_some_iff.1 h
  obtain ⟨hbase,h⟩:=bif_some h
  have hbase:=Nat.le_of_ble_eq_true hbase
  generalize hbs:nm (o.dst.getD 0) 1=base at h hbase
  have hok2:=hok
  simp only[Sig.ok,Bool.and_eq_true] at hok2
  obtain ⟨θ',hθ',hT⟩:=tok_ok w ι (Γ.ent g).sg.ps vs (Nat.le_of_ble_eq_true hok2.1)
  obtain ⟨g1,g2,g3,g4,g5⟩:=args_ok (i:=0) B W hs hob hx hv hio hT
  have hnd:((ioMap 0 (Γ.ent g).sg.ps vs).map (·.2)).Nodup:=g1 ▸ g2
  obtain ⟨ιc,hιc⟩:∃ιc,ιc=callι (ioMap 0 (Γ.ent g).sg.ps vs) ι:=⟨_,rfl⟩
  have hιp:∀p,p∈ioMap 0 (Γ.ent g).sg.ps vs→ιc p.1=ι p.2:=fun p hp=>by
   rw[hιc];simp only[callι,look_ioMap hp]
  obtain ⟨k1,k2⟩:=g5 ιc hιp
  have hι1:∀n,(ιc n).oneCell'=true:=fun n=>by
   rw[hιc];unfold callι
   split
   ·exact W.one _
   ·exact W.one _
  have hSame0:Same S0 w0 w:=fun b hb=>W.keep.block b (B.lt b hb) (B.ds b hb)
  have hG:GlobOk Γ θ' Sx w:=⟨Γ.wfm _ _ _ _ (fun b hb=>hs _ (W.s0 _ hb)) hSame0 B.gl.1,fun n p hp=>by
   obtain ⟨h0,h1,ws,h2,h3⟩:=B.gl.2 n p hp
   exact ⟨h0,hs _ (W.s0 _ h1),ws,(h2.mono W.s0 hSame0).conv (.inr hs) h0,h3.same hSame0 h1⟩⟩
  have hmio:∀p,p∈ioMap 0 (Γ.ent g).sg.ps vs→p.2∈io:=fun p hp=>g1 ▸ List.mem_map_of_mem hp
  have hF:=hC g x y hy hok θ' w ιc Sx Vs base hθ' hι1 hSx hG k1 k2
   (fun n ob b h1 h2=>by
    obtain ⟨m,o',h3,h4⟩:=g3 n ob h1
    exact hSo m o' b (hmio _ h3) h4 (by rw[←hιp _ h3];exact h2))
   (fun n m ob ob2 b h1 h2 h3 h4=>by
    obtain ⟨m1,o1,h5,h6⟩:=g3 n ob h1
    obtain ⟨m2,o2,h7,h8⟩:=g3 m ob2 h2
    have e:m1=m2:=W.inj m1 m2 o1 o2 b h6 h8 (by rw[←hιp _ h5];exact h3) (by rw[←hιp _ h7];exact h4)
    subst e
    exact nodup_snd hnd h5 h7) hbase
  have hcont:∀V w1,(∃V' ι' S',Ending.returned V=.returned V' ∧
   (∀b,Sx b→S' b)∧(∀b,S' b→Sx b∨w.heap.size≤b)∧(∀b,S' b→b<w1.heap.size)∧(∀n,(ι' n).oneCell'=true) ∧
   (∀n o,look (parsOb 0 (Γ.ent g).sg.ps x) n=some o→ι' n=ιc n) ∧
   Keep (fun b=>∃n o,look (parsOb 0 (Γ.ent g).sg.ps x) n=some o∧blk (ιc n)=some b) w w1 ∧
   RSV ι' θ' S' w1 (oneOf (resTV (Γ.ent g).sg.rs (ioTys (Γ.ent g).sg.ps) y base).1) V' ∧
   (∀n o,look (resTV (Γ.ent g).sg.rs (ioTys (Γ.ent g).sg.ps) y base).2.1 n=some o→ROb ι' θ' S' w1 n o∧∀b,blk (ι' n)=some b→¬S' b∧w.heap.size≤b) ∧
   (∀n m o o' b,look (resTV (Γ.ent g).sg.rs (ioTys (Γ.ent g).sg.ps) y base).2.1 n=some o→look (resTV (Γ.ent g).sg.rs (ioTys (Γ.ent g).sg.ps) y base).2.1 m=some o'→blk (ι' n)=some b→blk (ι' m)=some b→n=m) ∧
   (∀n o,look (ioObs 0 (Γ.ent g).sg.ps (resTV (Γ.ent g).sg.rs (ioTys (Γ.ent g).sg.ps) y base).2.2) n=some o→ROb ι' θ' S' w1 n o))→K' (a.put o.dst V) w1:=by
   rintro V w1 ⟨_,ι1,S1,hV,f1,f2,f3,f4,f5,f6,f7,f8,f9,f10⟩
   cases hV
   obtain ⟨sh,hshd⟩:∃sh,sh=(shares (Γ.ent g).sg.rs||ioShares (Γ.ent g).sg.ps):=⟨_,rfl⟩
   let S2:Nat→Prop:=fun b=>S b∨(sh=true∧S1 b)
   have hs2:sh=true→∀b,S1 b→S2 b:=fun h b hb=>.inr ⟨h,hb⟩
   have hsb2:∀b,S b→S2 b:=fun b=>.inl
   have hM:∀b,(∀n o,n∈(ioMap 0 (Γ.ent g).sg.ps vs).map (·.2)→r.obj n=some o→blk (ι n)≠some b)→¬ ∃n o,look (parsOb 0 (Γ.ent g).sg.ps x) n=some o∧blk (ιc n)=some b:=by
    rintro b hb ⟨n,ob,h1,h2⟩
    obtain ⟨m,o',h3,h4⟩:=g3 n ob h1
    exact hb m o' (List.mem_map_of_mem h3) h4 (by rw[←hιp _ h3];exact h2)
   have hSame:Same S w w1:=fun b hb=>f6.block b (W.sb b hb) (hM b fun n o' _ ho' e=>(W.own n o' b ho' e).1 hb)
   obtain ⟨r1,b1,b2,b3,b4,b5⟩:=back_spec h hnd hT
   have W1:RepW θ N w0 M0 S0 ι0 r1 ι S2 a w1:=by
    refine W.change2 (fun n=>n∈(ioMap 0 (Γ.ent g).sg.ps vs).map (·.2)) hsb2 (fun b hb=>?_) (fun b hb=>?_) f6.os f6.tape f6.output f6.size (fun b hb hn=>f6.block b hb (hM b hn)) b3 (fun n ob hn ho=>by rw[b4 n hn] at ho;exact ho) (fun n ob hn ho=>?_)
    ·rcases hb with hb | ⟨hb1,hb2⟩
     ·exact .inl hb
     ·exact (f2 b hb2).imp (fun h=>hsh (hshd ▸ hb1) b h) id
    ·rcases hb with hb | ⟨_,hb⟩
     ·exact Nat.lt_of_lt_of_le (W.sb b hb) f6.size
     ·exact f3 b hb
    ·obtain ⟨p,hp,rfl⟩:=List.mem_map.1 hn
     obtain ⟨op,oq,h1,h2⟩:=g4 p hp
     have hι':ι1 p.1=ι p.2:=(f5 _ _ h1).trans (hιp p hp)
     refine ⟨?_,oq,h2⟩
     have hbo:=b5 p hp
     cases hbo with
     | row e xs c1 c2 c3 c4 =>
      rw[c2] at ho
      cases ho
      obtain ⟨z0,pp,cap,z1,z2,z3⟩:=f10 _ _ c1
      refine ⟨z0,pp,cap,hι' ▸ z1,z2,z3.imp id fun ⟨bb,off,y1,y2,y3⟩=>⟨bb,off,y1,y2,fun i v hv=>?_⟩⟩
      obtain ⟨ws,y4,y5⟩:=y3 i v hv
      refine ⟨ws,y4.conv ?_ c3,y5⟩
      cases hl:hasLst e with
      | false=>exact .inl rfl
      | true=>exact .inr (hs2 (by rw[hshd];simp[c4 hl]))
     | box t x0 oc cs c1 c2 c3 c4 c5 c6 =>
      rw[c4] at ho
      cases ho
      obtain ⟨bb,us,y1,y2,y3,y4,y5⟩:=f10 _ _ c1
      rw[hι'] at y1
      refine ⟨bb,us,y1,y2,bc_ok (θ':=θ') (fun hq j c hj hc=>?_) (fun hl=>hs2 (by rw[hshd];simp[c5 hl])) c3 y3,y4,y5⟩
      obtain ⟨b0,vs0,z1,z2,z3,z4,z5⟩:=W.obs _ _ c2
      obtain ⟨U,u1,u2⟩:=z3.at' hj
      have h1U:=RCV.one1 W.one B.one u2 hc
      have:=z4 j U u1
      rw[Nat.zero_add] at this
      rw[c6 hq b0 z1 j U this h1U]
      exact RCV.mono hsb2 hSame (fun _ _=>rfl) u2
   obtain ⟨up1,up2⟩:=resTV_up (rs:=(Γ.ent g).sg.rs) (l:=ioTys (Γ.ent g).sg.ps) (y:=y) (m:=base)
   obtain ⟨v1,v2⟩:=resTV_cv (sh:=sh) (l:=ioTys (Γ.ent g).sg.ps) (rs:=(Γ.ent g).sg.rs) (y:=y) (m:=base) hok2.2 (fun h=>by rw[hshd];simp[h])
   obtain ⟨r2,ι2,d1,W2,d3,d4,d5⟩:=news_ok (ιc:=ι1) b1 W1 up1 (fun n ob hm=>by
    have hl:=look_mem' up1 hm
    obtain ⟨e1,e2⟩:=f8 n ob hl
    refine ⟨?_,?_,f4 n,fun b hb=>⟨⟨?_,.inr ?_⟩,fun m o' hm' hb'=>?_⟩⟩
    ·rcases v2 _ hm with ⟨e,xs,e0,_,_⟩ | ⟨t,x0,e0,_,_⟩
     ·simp only at e0;rw[e0];rfl
     ·simp only at e0;rw[e0];exact toCells_nil
    ·rcases v2 _ hm with ⟨e,xs,e0,q1,q2⟩ | ⟨t,x0,e0,q1,q2⟩
     ·simp only at e0
      subst e0
      obtain ⟨z0,pp,cap,z1,z2,z3⟩:=e1
      refine ⟨z0,pp,cap,z1,z2,z3.imp id fun ⟨bb,off,y1,y2,y3⟩=>⟨bb,off,y1,y2,fun i v hv=>?_⟩⟩
      obtain ⟨ws,y4,y5⟩:=y3 i v hv
      refine ⟨ws,y4.conv ?_ q1,y5⟩
      cases hl:hasLst e with
      | false=>exact .inl rfl
      | true=>exact .inr (hs2 (q2 hl))
     ·simp only at e0
      subst e0
      obtain ⟨bb,us,y1,y2,y3,y4,y5⟩:=e1
      exact ⟨bb,us,y1,y2,y3.mono_mem fun c V hc hk=>RCV.conv2 (sh:=sh) (toCells_cv q1 q2 c hc) hs2 (fun _ _=>rfl) hk,y4,y5⟩
    ·rintro (h | ⟨_,h⟩)
     ·exact (e2 b hb).1 (f1 b (hs b h))
     ·exact (e2 b hb).1 h
    ·have:=(e2 b hb).2
     have:=W.keep.size
     omega
    ·have hlt:∃oo,r.obj m=some oo:=by
      by_cases hmm:m∈(ioMap 0 (Γ.ent g).sg.ps vs).map (·.2)
      ·obtain ⟨p,hp,rfl⟩:=List.mem_map.1 hmm
       obtain ⟨_,oq,_,h2⟩:=g4 p hp
       exact ⟨oq,h2⟩
      ·rw[b4 m hmm] at hm';exact ⟨o',hm'⟩
     obtain ⟨oo,hoo⟩:=hlt
     have:=W.blk_lt hoo hb'
     have:=(e2 b hb).2
     omega) (fun n m o1 o2 b h1 h2 h3 h4=>f9 n m o1 o2 b (look_mem' up1 h1) (look_mem' up1 h2) h3 h4)
   have hres:RSV ι2 θ S2 w1 (oneOf (resTV (Γ.ent g).sg.rs (ioTys (Γ.ent g).sg.ps) y base).1) V :=
    oneOf_conv (sh:=sh) (fun v hv=>(v1 v hv).1) hs2 (fun v hv n hn=>d4 n ((v1 v hv).2 n hn)) f7
   obtain ⟨r3,m1,W3,m3,_⟩:=put_ok d1 W2 hres
   exact hK r3 ι2 S2 _ w1 m1 W3 (b2.trans (d3.trans m3))
  rcases hF with ⟨e,hc⟩ | ⟨V,w1,e,hR⟩ | ⟨row,l,w1,e,hR⟩
  ·unfold Oper.wp
   rw[hcall,e,Oper.upon_enter]
   refine hc.mono fun e w' h=>?_
   obtain ⟨V,ι1,S1,rfl,hh⟩:=h
   exact hcont V w' ⟨V,ι1,S1,rfl,hh⟩
  ·unfold Oper.wp
   rw[hcall,e]
   exact hcont V w1 hR
  ·unfold Oper.wp
   rw[hcall,e,Oper.upon_row]
   exact hR.mono fun V w' h=>hcont V w' h
theorem evArgs_ok (B:Base P Γ θ w0 M0 S0) (W:RepW θ N w0 M0 S0 ι0 r ι S a w):∀ {xs:List Operand} {vs:List SV},evArgs Γ r xs=some vs→All2 (RSV ι θ S w) vs (xs.map a.eval)
 | [],vs,h=>by cases h;exact .nil
 | x :: xs,vs,h=>by
  simp only[evArgs] at h
  split at h
  ·rename_i v hv
   split at h
   ·rename_i us hus
    cases h
    exact .cons (eval_ok B W hv) (evArgs_ok B W hus)
   ·cases h
  ·cases h
theorem call_ok (B:Base P Γ θ w0 M0 S0) (hC:∀g,FnOk P Γ g (Γ.ent g).sg (cal g)) (W:RepW θ N w0 M0 S0 ι0 r ι S a w) {c:Call} {g:Nat} (ho:o.op=.call c) (hc:c.callee=.value (.func g))
  (h:r.call Γ N cal o.dst g c.args.toList k=some q) (hK:Out θ N w0 M0 S0 ι0 k q r K'):o.wp P a w K' Q:=by
 have hcall:(execOp a.eval o).run P w=(callFunc g ⟨c.args.toList.map a.eval⟩).run P w:=by
  have:c.args.map a.eval=(⟨c.args.toList.map a.eval⟩:Array Value):=by simp[←Array.toList_map]
  simp[execOp,ho,resolve,hc,Act.eval,Deferred.ofValue,invoke]
  rw[this]
 unfold Env.call at h
 obtain ⟨hok,h⟩:=bifn_some h
 have hok:(Γ.ent g).sg.ok=true:=by simpa using hok
 split at h
 ·cases h
 ·rename_i vs hvs
  cases hsh:(shares (Γ.ent g).sg.rs||ioShares (Γ.ent g).sg.ps) with
  | true =>
   rw[hsh] at h
   obtain ⟨r1,S1,h1,hs1,W1,p1⟩:=freezeAll_ok h W
   split at h1
   ·rename_i vs1 hvs1
    split at h1
    ·rename_i io hio
     exact callW_ok B hC W1 (fun _ h=>h) none_ob W1.sb (fun m o' b _ ho' hb=>(W1.own m o' b ho' hb).1) (fun _ b h=>h) hok (evArgs_ok B W1 hvs1) hio h1 hcall
      (fun r' ι' S' a' w' e1 e2 e3=>hK r' ι' S' a' w' e1 e2 (p1.trans e3))
    ·cases h1
   ·cases h1
  | false =>
   rw[hsh] at h
   simp only[cond_false] at h
   split at h
   ·rename_i io hio
    let Sx:Nat→Prop:=fun b=>S b∨∃m o',m ∉ io∧r.obj m=some o'∧blk (ι m)=some b
    refine callW_ok (Sx:=Sx) B hC W (fun b=>.inl) (fun n e xs hn=>?_) (fun b hb=>?_) (fun m o' b hm ho' hb hx=>?_) (fun h=>by rw[hsh] at h;cases h) hok (evArgs_ok B W hvs) hio h hcall hK
    ·unfold without at hn
     cases hm:mem n io with
     | true=>rw[hm] at hn;cases hn
     | false =>
      rw[hm] at hn
      exact row_imm (fun b=>.inl) (W.obs n _ hn) (fun b hb=>.inr ⟨n,_,(mem_false _ _).1 hm,hn,hb⟩)
    ·rcases hb with hb | ⟨m,o',_,ho',hb⟩
     ·exact W.sb b hb
     ·exact W.blk_lt ho' hb
    ·rcases hx with hx | ⟨m2,o2,hm2,ho2,hb2⟩
     ·exact (W.own m o' b ho' hb).1 hx
     ·exact hm2 (W.inj m m2 o' o2 b ho' ho2 hb hb2 ▸ hm)
   ·cases h
end Go.VM
namespace Go.VM
open Go.RowKit
variable {P:Program} {Γ:Ctx} {θ:Nat→Value} {N:Nat} {w0:World} {M0 S0:Nat→Prop} {ι0:Nat→Value} {r:Env} {ι:Nat→Value} {S:Nat→Prop} {a:Act} {w:World} {R:Type}
 {o:Oper} {K':Act→World→Prop} {Q:Exit→Act→World→Prop} {k:Env→Option R} {q:R} {cal:Cal Γ}
theorem capOne_ok {p:Ty×Nat} {v:SV} {x:(pTy p).den} {V:Value} (h:capOne p v=some x) (hv:RSV ι θ S w v V):RepC θ S w (pTy p) x [V]:=by
 obtain ⟨t,n⟩:=p
 cases t <;> (try cases h;done)
 rename_i τ
 cases n with
 | succ n=>cases h
 | zero =>
  cases v with
  | tup _=>cases h
  | t tv =>
   cases tv with
   | agg _=>cases h
   | one c =>
    have h:adrOf τ c=some x:=h
    have hv:RCV ι θ S w c V:=hv
    cases c <;> simp only[adrOf] at h <;> (try cases h;done)
    rename_i t' x' off
    obtain ⟨e1,h⟩:=bif_some h
    obtain rfl:=Nat.eq_of_beq_eq_true e1
    split at h
    ·rename_i ht
     subst ht
     cases h
     obtain ⟨b,o,ws,e2,hb,c1,c2⟩:=hv
     exact ⟨b,o,ws,by rw[e2];rfl,hb,c1,c2⟩
    ·cases h
theorem capIn_ok:∀ {ps:List (Ty×Nat)} {vs:List SV} {x:(prodTy (ps.map pTy)).den} {Vs:List Value},capIn ps vs=some x→All2 (RSV ι θ S w) vs Vs→RepC θ S w (prodTy (ps.map pTy)) x Vs
 | [],[],_,_,_,.nil=>rfl
 | [],_ :: _,_,_,h,_=>by cases h
 | _ :: _,[],_,_,h,_=>by cases h
 | p :: ps,v :: vs,x,_,h,.cons h1 h2=>by
  simp only[capIn] at h
  split at h
  ·rename_i y hy
   split at h
   ·rename_i ys hys
    cases h
    exact ⟨_,_,rfl,capOne_ok hy h1,capIn_ok hys h2⟩
   ·cases h
  ·cases h
theorem func_ok (B:Base P Γ θ w0 M0 S0) (W:RepW θ N w0 M0 S0 ι0 r ι S a w) {fn:Fn} {first caps:Array Operand} (ho:o.op=.makeFunc fn first caps)
  (h:stepFunc Γ N r o.dst fn first.toList caps.toList k=some q) (hK:Out θ N w0 M0 S0 ι0 k q r K'):o.wp P a w K' Q:=by
 have hrun:(execOp a.eval o).run P w=.ok (.value (.func fn ⟨first.toList.map a.eval⟩ ⟨caps.toList.map a.eval⟩)) w:=by
  have e1:first.map a.eval=(⟨first.toList.map a.eval⟩:Array Value):=by simp[←Array.toList_map]
  have e2:caps.map a.eval=(⟨caps.toList.map a.eval⟩:Array Value):=by simp[←Array.toList_map]
  simp[execOp,ho,Instr.makeFunc]
  exact ⟨e1,e2⟩
 generalize first.toList=fl at h hrun
 generalize caps.toList=cl at h hrun
 unfold stepFunc at h
 split at h
 ·rename_i g
  unfold stepLit at h
  split at h
  ·obtain ⟨r1,S1,h1,hs1,W1,p1⟩:=freezeBoxes_ok h W
   split at h1
   ·rename_i vs1 hvs1
    split at h1
    ·rename_i x hx
     exact fin hrun h1 W1 p1 ⟨[],_,rfl,rfl,capIn_ok hx (evArgs_ok B W1 hvs1)⟩ hK
    ·cases h1
   ·cases h1
  ·cases h
 ·rename_i g y
  unfold stepBound at h
  split at h
  ·rename_i f _ cs hps hy
   split at h
   ·rename_i v hv
    obtain ⟨us,u1,u2,_⟩:=denTV_ok (S':=S) (fun _ h=>h) none_ob B.one hv (eval_ok B W hy)
    have hS:f.isS=true:=by
     unfold denTV at hv
     split at hv
     ·exact (bif_some hv).1
     ·cases hv
    have hag:aggOf f us=.agg ⟨us⟩:=by
     cases f <;> first | rfl | cases hS
    refine fin hrun h W (.refl r) (v:=.c (.clo g true f v .unit ())) ⟨us,[],?_,u1,rfl⟩ hK
    simp only[List.map_cons,List.map_nil,cond_true]
    rw[u2,hag]
   ·cases h
  ·cases h
 ·cases h
end Go.VM
namespace Go.VM
open Go.RowKit
variable {P:Program} {Γ:Ctx} {θ:Nat→Value} {ι:Nat→Value} {S:Nat→Prop} {w:World}
theorem allAdr_ob:∀ {l:List (Ty×Nat)} {i:Nat} {x:(prodTy (l.map pTy)).den},allAdr l=true→parsOb i l x=[]
 | [],_,_,_=>rfl
 | (t,n) :: l,i,x,h=>by
  cases t <;> (try cases h;done)
  cases n with
  | succ n=>cases h
  | zero=>exact allAdr_ob (l:=l) h
theorem allAdr_ok:∀ {l:List (Ty×Nat)} {i:Nat} {x:(prodTy (l.map pTy)).den} {us:List Value},allAdr l=true→RepC θ S w (prodTy (l.map pTy)) x us→All2 (RSV ι θ S w) (parsSV i l x) us
 | [],_,_,_,_,c=>by rw[show _=[] from c];exact .nil
 | (t,n) :: l,i,x,us,h,c=>by
  cases t <;> (try cases h;done)
  cases n with
  | succ n=>cases h
  | zero =>
   obtain ⟨v1,v2,rfl,⟨b,o,ws,rfl,hb,c1,c2⟩,k⟩:=c
   exact .cons ⟨b,o,ws,rfl,hb,c1,c2⟩ (allAdr_ok (l:=l) h k)
theorem Invk.mono {g:Nat} {args:Array Value} {Q Q':Ending→World→Prop} (h:Invk P g args w Q) (hq:∀e w',Q e w'→Q' e w'):Invk P g args w Q':=by
 rcases h with ⟨e,hc⟩ | ⟨V,w1,e,hR⟩ | ⟨row,l,w1,e,hR⟩
 ·exact .inl ⟨e,hc.mono fun e w' h=>hq e w' h⟩
 ·exact .inr (.inl ⟨V,w1,e,hq _ _ hR⟩)
 ·exact .inr (.inr ⟨row,l,w1,e,hR.mono fun V w' h=>hq _ _ h⟩)
theorem Keep.below {M:Nat→Prop} {w w':World} (h:Keep M w w') (hM:∀b,¬M b):Below w.heap.size w w':=⟨h.os,h.tape,h.output,h.size,fun k hk=>h.block k hk (hM k)⟩
theorem litCall_ok {g m:Nat} {e:Ty} {l:List (Ty×Nat)} {F:(Sig.mk ((e,0) :: l) [(.bool,m)]).inTy.den→Option (Sig.mk ((e,0) :: l) [(.bool,m)]).outTy.den} (hF:FnOk P Γ g ⟨(e,0) :: l,[(.bool,m)]⟩ F)
  (hok:(Sig.mk ((e,0) :: l) [(.bool,m)]).ok=true) (hm:m≤1) (hl:allAdr l=true) {z:e.den} {x:(prodTy (l.map pTy)).den} {y:(Sig.mk ((e,0) :: l) [(.bool,m)]).outTy.den} (hy:F (z,x)=some y)
  (hθ:∀n,(θ n).oneCell'=true) (hS:∀b,S b→b<w.heap.size) (hG:GlobOk Γ θ S w) {vs us:List Value} (hz:RepC θ S w e z vs) (hx:RepC θ S w (prodTy (l.map pTy)) x us) :
  Invk P g ⟨aggOf e vs :: us⟩ w fun E w'=>E=.returned (.bool y.1)∧Below w.heap.size w w':=by
 have hob:∀n o,¬look (parsOb 0 ((e,0) :: l) (z,x)) n=some o:=fun n o h=>by
  have e0:parsOb 0 ((e,0) :: l) (z,x)=parsOb (0+1) l x:=rfl
  rw[e0,allAdr_ob hl] at h
  cases h
 have hlen:∀(ll:List Ty) (yy:(prodTy (([(Ty.bool,m)]:List (Ty×Nat)).map (·.1)++ll)).den),(resTV [(.bool,m)] ll yy 0).2.1.length=0∧oneOf (resTV [(.bool,m)] ll yy 0).1=.t (.one (.bool yy.1)):=fun ll yy=>by
  match m,hm with
  | 0,_=>exact ⟨rfl,rfl⟩
  | 1,_=>exact ⟨rfl,rfl⟩
 have h:=hF (z,x) y hy hok θ w (fun _=>.nilFunc) S (aggOf e vs :: us) 0 hθ (fun _=>rfl) hS hG (.cons (toTV_ok hz) (allAdr_ok hl hx)) (fun n o h=>absurd h (hob n o)) (fun n o b h=>absurd h (hob n o))
  (fun n m o o' b h=>absurd h (hob n o)) (by rw[(hlen _ y).1];exact Nat.zero_le _)
 refine h.mono fun E w' ⟨V,ι',S',hE,_,_,_,_,_,hk,hV,_⟩=>?_
 rw[(hlen _ y).2] at hV
 obtain rfl:V=.bool y.1:=hV
 exact ⟨hE,hk.below fun b ⟨n,o,h1,_⟩=>hob n o h1⟩
theorem bndCall_ok {g m:Nat} {f e:Ty} {F:(Sig.mk [(f,0),(e,0)] [(.bool,m)]).inTy.den→Option (Sig.mk [(f,0),(e,0)] [(.bool,m)]).outTy.den} (hF:FnOk P Γ g ⟨[(f,0),(e,0)],[(.bool,m)]⟩ F)
  (hok:(Sig.mk [(f,0),(e,0)] [(.bool,m)]).ok=true) (hm:m≤1) {v:f.den} {z:e.den} {y:(Sig.mk [(f,0),(e,0)] [(.bool,m)]).outTy.den} (hy:F (v,z,())=some y)
  (hθ:∀n,(θ n).oneCell'=true) (hS:∀b,S b→b<w.heap.size) (hG:GlobOk Γ θ S w) {us vs:List Value} (hv:RepC θ S w f v us) (hz:RepC θ S w e z vs) :
  Invk P g ⟨[aggOf f us,aggOf e vs]⟩ w fun E w'=>E=.returned (.bool y.1)∧Below w.heap.size w w':=by
 have hob:∀n o,¬look (parsOb 0 [(f,0),(e,0)] (v,z,())) n=some o:=fun n o h=>by cases h
 have hlen:∀(ll:List Ty) (yy:(prodTy (([(Ty.bool,m)]:List (Ty×Nat)).map (·.1)++ll)).den),(resTV [(.bool,m)] ll yy 0).2.1.length=0∧oneOf (resTV [(.bool,m)] ll yy 0).1=.t (.one (.bool yy.1)):=fun ll yy=>by
  match m,hm with
  | 0,_=>exact ⟨rfl,rfl⟩
  | 1,_=>exact ⟨rfl,rfl⟩
 have h:=hF (v,z,()) y hy hok θ w (fun _=>.nilFunc) S [aggOf f us,aggOf e vs] 0 hθ (fun _=>rfl) hS hG (.cons (toTV_ok hv) (.cons (toTV_ok hz) .nil)) (fun n o h=>absurd h (hob n o)) (fun n o b h=>absurd h (hob n o))
  (fun n m o o' b h=>absurd h (hob n o)) (by rw[(hlen _ y).1];exact Nat.zero_le _)
 refine h.mono fun E w' ⟨V,ι',S',hE,_,_,_,_,_,hk,hV,_⟩=>?_
 rw[(hlen _ y).2] at hV
 obtain rfl:V=.bool y.1:=hV
 exact ⟨hE,hk.below fun b ⟨n,o,h1,_⟩=>hob n o h1⟩
variable {N:Nat} {w0:World} {M0 S0:Nat→Prop} {ι0:Nat→Value} {r:Env} {a:Act} {R:Type}
 {o:Oper} {K':Act→World→Prop} {Q:Exit→Act→World→Prop} {k:Env→Option R} {q:R} {cal:Cal Γ}
theorem castFst {A B:Ty} (h:Ty.pair .bool A=Ty.pair .bool B) (p:(Ty.pair .bool A).den):(castD h p).1=p.1:=by cases h;rfl
theorem Invk.entered {g:Nat} {args:Array Value} {Q:Ending→World→Prop} (h:Invk P g args w Q) (he:(callFunc g args).run P w=.ok (.enter g args) w):Calls P g args w Q:=by
 rcases h with ⟨_,hc⟩ | ⟨V,w1,e,_⟩ | ⟨row,l,w1,e,_⟩
 ·exact hc
 ·rw[he] at e;cases e
 ·rw[he] at e;cases e
theorem predLit_ok {g:Nat} {sg:Sig} {F:sg.inTy.den→Option sg.outTy.den} (hF:FnOk P Γ g sg F) (hs:okLit sg=true) {e τ:Ty} {z:e.den} {x:τ.den} (hI:Ty.pair e τ=sg.inTy) (hO:sg.outTy=.pair .bool .unit) {b:Bool}
  (hb:((F (castD hI (z,x))).map fun o=>(castD hO o).1)=some b) (hθ:∀n,(θ n).oneCell'=true) (hS:∀b,S b→b<w.heap.size) (hG:GlobOk Γ θ S w) {vs us:List Value} (hz:RepC θ S w e z vs) (hx:RepC θ S w τ x us) :
  Invk P g ⟨aggOf e vs :: us⟩ w fun E w'=>E=.returned (.bool b)∧Below w.heap.size w w':=by
 obtain ⟨ps,rs⟩:=sg
 unfold okLit at hs
 split at hs
 ·rename_i t l m h1 h2
  simp only at h1 h2
  subst h1;subst h2
  simp only[Bool.and_eq_true] at hs
  obtain ⟨⟨hl,hm⟩,hok⟩:=hs
  obtain ⟨y,hy,rfl⟩:=Option.map_eq_some_iff.1 hb
  have hI':Ty.pair e τ=Ty.pair t (prodTy (l.map pTy)):=hI
  cases hI'
  have hO':Ty.pair .bool (prodTy (ioTys ((e,0) :: l)))=Ty.pair .bool .unit:=hO
  have hc:(castD hO y).1=y.1:=castFst hO' y
  rw[hc]
  exact litCall_ok hF hok (Nat.le_of_ble_eq_true hm) hl hy hθ hS hG hz hx
 ·cases hs
theorem predBnd_ok {g:Nat} {sg:Sig} {F:sg.inTy.den→Option sg.outTy.den} (hF:FnOk P Γ g sg F) (hs:okBnd sg=true) {f e:Ty} {v:f.den} {z:e.den} (hI:Ty.pair f (.pair e .unit)=sg.inTy) (hO:sg.outTy=.pair .bool .unit) {b:Bool}
  (hb:((F (castD hI (v,z,()))).map fun o=>(castD hO o).1)=some b) (hθ:∀n,(θ n).oneCell'=true) (hS:∀b,S b→b<w.heap.size) (hG:GlobOk Γ θ S w) {us vs:List Value} (hv:RepC θ S w f v us) (hz:RepC θ S w e z vs) :
  Invk P g ⟨[aggOf f us,aggOf e vs]⟩ w fun E w'=>E=.returned (.bool b)∧Below w.heap.size w w':=by
 obtain ⟨ps,rs⟩:=sg
 unfold okBnd at hs
 split at hs
 ·rename_i t1 t2 m h1 h2
  simp only at h1 h2
  subst h1;subst h2
  simp only[Bool.and_eq_true] at hs
  obtain ⟨hm,hok⟩:=hs
  obtain ⟨y,hy,rfl⟩:=Option.map_eq_some_iff.1 hb
  have hI':Ty.pair f (.pair e .unit)=Ty.pair t1 (.pair t2 .unit):=hI
  cases hI'
  have hO':Ty.pair .bool (prodTy (ioTys [(f,0),(e,0)]))=Ty.pair .bool .unit:=hO
  have hc:(castD hO y).1=y.1:=castFst hO' y
  rw[hc]
  exact bndCall_ok hF hok (Nat.le_of_ble_eq_true hm) hy hθ hS hG hv hz
 ·cases hs
end Go.VM
namespace Go.VM
open Go.RowKit
variable {P:Program} {Γ:Ctx} {θ:Nat→Value} {N:Nat} {w0:World} {M0 S0:Nat→Prop} {ι0:Nat→Value} {r:Env} {ι:Nat→Value} {S:Nat→Prop} {a:Act} {w:World} {R:Type}
 {o:Oper} {K':Act→World→Prop} {Q:Exit→Act→World→Prop} {k:Env→Option R} {q:R} {cal:Cal Γ}
theorem GlobOk.at (B:Base P Γ θ w0 M0 S0) (W:RepW θ N w0 M0 S0 ι0 r ι S a w) {w':World} (hb:Below w.heap.size w w'):GlobOk Γ θ (fun b=>b<w.heap.size) w':=by
 have h0:Same S0 w0 w':=fun b h=>(hb.block b (W.sb b (W.s0 b h))).trans (W.keep.block b (B.lt b h) (B.ds b h))
 have hs:∀b,S0 b→b<w.heap.size:=fun b h=>W.sb b (W.s0 b h)
 exact ⟨Γ.wfm _ _ _ _ hs h0 B.gl.1,fun n p hp=>by
  obtain ⟨g0,h1,ws,h2,h3⟩:=B.gl.2 n p hp
  exact ⟨g0,hs _ h1,ws,h2.mono hs h0,h3.same h0 h1⟩⟩
theorem list_in (W:RepW θ N w0 M0 S0 ι0 r ι S a w) {e:Ty} {c:CV} {xs:List e.den} {V:Value} (h:listOf r.obj e c=some xs) (hc:RCV ι θ S w c V):RepC θ (fun b=>b<w.heap.size) w (.lst e) xs [V]:=by
 have h1:ofCells r.obj (.lst e) [c]=some (xs,[]):=by simp only[ofCells,h]
 obtain ⟨v1,v2,e12,hR,hn⟩:=ofCells_ok (S':=fun b=>b<w.heap.size) W.sb (fun n e xs hn=>row_imm W.sb (W.obs n _ hn) (fun b hb=>W.blk_lt hn hb)) h1 (.cons hc .nil)
 cases hn
 rw[List.append_nil] at e12
 rw[e12];exact hR
theorem foV_ok (B:Base P Γ θ w0 M0 S0) (W:RepW θ N w0 M0 S0 ι0 r ι S a w) {x:Operand} {c:CV} (h:foV Γ r x=some c):RCV ι θ S w c (a.eval x):=by
 cases x with
 | func g=>cases h;exact ⟨[],[],rfl,rfl,rfl⟩
 | tmp t=>exact evc_ok B W h
 | const v=>exact evc_ok B W h
 | global g=>exact evc_ok B W h
theorem ho_end (W:RepW θ N w0 M0 S0 ι0 r ι S a w) {g kd:Nat} {Vs:List Value} {i:Option Nat} (h:r.put N o.dst (.c (hoC kd i)) k=some q) (hcall:(execOp a.eval o).run P w=(callFunc g ⟨Vs⟩).run P w)
  (hI:Invk P g ⟨Vs⟩ w fun E W'=>E=.returned (hoV kd i)∧Below w.heap.size w W') (hK:Out θ N w0 M0 S0 ι0 k q r K'):o.wp P a w K' Q:=by
 have hcont:∀V w1,(Ending.returned V=.returned (hoV kd i)∧Below w.heap.size w w1)→K' (a.put o.dst V) w1:=by
  rintro V w1 ⟨hV,hb⟩
  cases hV
  have hv:RSV ι θ S w1 (.c (hoC kd i)) (hoV kd i):=by unfold hoC hoV;split <;> rfl
  obtain ⟨r3,m1,W3,m3,_⟩:=put_ok h (W.below hb) hv
  exact hK r3 ι S _ w1 m1 W3 m3
 rcases hI with ⟨e,hc⟩ | ⟨V,w1,e,hR⟩ | ⟨row,l,w1,e,hR⟩
 ·unfold Oper.wp
  rw[hcall,e,Oper.upon_enter]
  refine hc.mono fun e w' h=>?_
  obtain ⟨rfl,hh⟩:=h
  exact hcont _ w' ⟨rfl,hh⟩
 ·unfold Oper.wp
  rw[hcall,e]
  exact hcont V w1 hR
 ·unfold Oper.wp
  rw[hcall,e,Oper.upon_row]
  exact hR.mono fun V w' h=>hcont V w' h
theorem wp_invk {g:Nat} {Vs:List Value} {G:Value→World→Prop} (hcall:(execOp a.eval o).run P w=(callFunc g ⟨Vs⟩).run P w) (hI:Invk P g ⟨Vs⟩ w fun E W'=>∃V,E=.returned V∧G V W') (hK:∀V W',G V W'→K' (a.put o.dst V) W'):o.wp P a w K' Q:=by
 rcases hI with ⟨e,hc⟩ | ⟨V,w1,e,V',hV,hR⟩ | ⟨row,l,w1,e,hR⟩
 ·unfold Oper.wp
  rw[hcall,e,Oper.upon_enter]
  refine hc.mono fun e w' h=>?_
  obtain ⟨V,rfl,hh⟩:=h
  exact hK V w' hh
 ·unfold Oper.wp
  rw[hcall,e]
  cases hV
  exact hK _ w1 hR
 ·unfold Oper.wp
  rw[hcall,e,Oper.upon_row]
  refine hR.mono fun V w' h=>?_
  obtain ⟨V',hV,hh⟩:=h
  cases hV
  exact hK _ w' hh
theorem RowAt.rob {e:Ty} {xs:List e.den} {V:Value} (h:RowAt θ S w e xs V) {ι:Nat→Value} {n:Nat} (hn:ι n=V):ROb ι θ S w n (.row e xs):=by
 obtain ⟨h0,p,cap,h1,h2⟩:=h
 exact ⟨h0,p,cap,hn.trans h1,h2⟩
theorem rowOut_ok (W:RepW θ N w0 M0 S0 ι0 r ι S a w) {g n:Nat} {e:Ty} {xs ys:List e.den} {Vs:List Value} (hn:r.obj n=some (.row e xs)) (h:rowOut N r o.dst n e ys k=some q) (hcall:(execOp a.eval o).run P w=(callFunc g ⟨Vs⟩).run P w)
  (hI:Invk P g ⟨Vs⟩ w (RowTo θ S w (ι n) e ys)) (hK:Out θ N w0 M0 S0 ι0 k q r K'):o.wp P a w K' Q:=by
 refine wp_invk hcall (hI.mono fun E W' ⟨V',h1,h2⟩=>⟨V',h1,h2⟩) fun V w' ⟨h1,h2,h3,h4⟩=>?_
 obtain ⟨r1,g1,W1,p1,_,hn1,hsub⟩:=drop_ok h W hn h3.os h3.tape h3.output h3.size (fun b hb hne=>h3.block b hb hne)
 obtain ⟨r2,g2,W2,p2,_⟩:=new_ok h1 g1 W1 (h2.rob (upd_same _ _ _)) (fun b hbV=>by
  have hother:∀m p,r1.obj m=some p→m≠n∧r.obj m=some p:=fun m p hm=>by
   by_cases hmn:m=n
   ·subst hmn;rw[hn1] at hm;cases hm
   ·rw[hsub m hmn] at hm;exact ⟨hmn,hm⟩
  rcases h4 b hbV with hb | hb
  ·refine ⟨W.own n _ b hn hb,fun m p hm hbm=>?_⟩
   obtain ⟨k1,k2⟩:=hother m p hm
   exact k1 (W.inj m n p _ b k2 hn hbm hb)
  ·refine ⟨⟨fun hs=>?_,.inr ?_⟩,fun m p hm hbm=>?_⟩
   ·have:=W.sb b hs;omega
   ·have:=W.keep.size;omega
   ·obtain ⟨_,k2⟩:=hother m p hm
    have:=W.blk_lt k2 hbm
    omega)
 obtain ⟨r3,g3,W3,p3,_⟩:=put_ok g2 W2 (sl_name _ V)
 exact hK r3 _ S _ w' g3 W3 (p1.trans (p2.trans p3))
theorem castPair {A:Type} {B C:Ty} {t:Ty} (h:Ty.pair t B=Ty.pair t C) (p:(Ty.pair t B).den):(castD h p).1=p.1:=by cases h;rfl
theorem cmpLit_ok {g:Nat} {sg:Sig} {F:sg.inTy.den→Option sg.outTy.den} (hF:FnOk P Γ g sg F) (hs:okCmp sg=true) {e τ:Ty} {z1 z2:e.den} {x:τ.den} (hI:Ty.pair e (.pair e τ)=sg.inTy) (hO:sg.outTy=.pair (.int .i64) .unit) {b:Int}
  (hb:((F (castD hI (z1,z2,x))).map fun o=>(castD hO o).1)=some b) (hθ:∀n,(θ n).oneCell'=true) (hS:∀b,S b→b<w.heap.size) (hG:GlobOk Γ θ S w) {v1 v2 us:List Value} (h1:RepC θ S w e z1 v1) (h2:RepC θ S w e z2 v2) (hx:RepC θ S w τ x us) :
  Invk P g ⟨aggOf e v1 :: aggOf e v2 :: us⟩ w fun E w'=>E=.returned (.int .i64 b)∧Below w.heap.size w w':=by
 obtain ⟨ps,rs⟩:=sg
 unfold okCmp at hs
 split at hs
 ·rename_i t1 t2 l m e1 e2
  simp only at e1 e2
  subst e1;subst e2
  simp only[Bool.and_eq_true] at hs
  obtain ⟨⟨hl,hm⟩,hok⟩:=hs
  have hm:=Nat.le_of_ble_eq_true hm
  obtain ⟨y,hy,rfl⟩:=Option.map_eq_some_iff.1 hb
  have hI':Ty.pair e (.pair e τ)=Ty.pair t1 (.pair t2 (prodTy (l.map pTy))):=hI
  cases hI'
  have hO':Ty.pair (.int .i64) (prodTy (ioTys ((e,0) :: (e,0) :: l)))=Ty.pair (.int .i64) .unit:=hO
  have hc:(castD hO y).1=y.1:=castPair (A:=Unit) hO' y
  rw[hc]
  have hob:∀n o,¬look (parsOb 0 ((e,0) :: (e,0) :: l) (z1,z2,x)) n=some o:=fun n o h=>by
   have e0:parsOb 0 ((e,0) :: (e,0) :: l) (z1,z2,x)=parsOb (0+1+1) l x:=rfl
   rw[e0,allAdr_ob hl] at h
   cases h
  have hlen:∀(ll:List Ty) (yy:(prodTy (([(Ty.int .i64,m)]:List (Ty×Nat)).map (·.1)++ll)).den),(resTV [(.int .i64,m)] ll yy 0).2.1.length=0∧oneOf (resTV [(.int .i64,m)] ll yy 0).1=.t (.one (.int .i64 yy.1)):=fun ll yy=>by
   match m,hm with
   | 0,_=>exact ⟨rfl,rfl⟩
   | 1,_=>exact ⟨rfl,rfl⟩
  have h:=hF (z1,z2,x) y hy hok θ w (fun _=>.nilFunc) S (aggOf e v1 :: aggOf e v2 :: us) 0 hθ (fun _=>rfl) hS hG (.cons (toTV_ok h1) (.cons (toTV_ok h2) (allAdr_ok hl hx))) (fun n o h=>absurd h (hob n o)) (fun n o b h=>absurd h (hob n o))
   (fun n m o o' b h=>absurd h (hob n o)) (by rw[(hlen _ y).1];exact Nat.zero_le _)
  refine h.mono fun E w' ⟨V,ι',S',hE,_,_,_,_,_,hk,hV,_⟩=>?_
  rw[(hlen _ y).2] at hV
  obtain rfl:V=.int .i64 y.1:=hV
  exact ⟨hE,hk.below fun b ⟨n,o,h1,_⟩=>hob n o h1⟩
 ·cases hs
theorem GlobOk.up {S':Nat→Prop} (h:GlobOk Γ θ S w) (hs:∀b,S b→S' b):GlobOk Γ θ S' w:=⟨Γ.wfm _ _ _ _ hs (fun _ _=>rfl) h.1,fun n p hp=>by
 obtain ⟨g0,h1,ws,h2,h3⟩:=h.2 n p hp
 exact ⟨g0,hs _ h1,ws,h2.mono hs (fun _ _=>rfl),h3⟩⟩
theorem GlobOk.keep (B:Base P Γ θ w0 M0 S0) (W:RepW θ N w0 M0 S0 ι0 r ι S a w) {M:Nat→Prop} {w':World} (hk:Keep M w w') (hM:∀b,S b→¬M b):GlobOk Γ θ S w':=by
 have h0:Same S0 w0 w':=fun b h=>(hk.block b (W.sb b (W.s0 b h)) (hM b (W.s0 b h))).trans (W.keep.block b (B.lt b h) (B.ds b h))
 exact ⟨Γ.wfm _ _ _ _ W.s0 h0 B.gl.1,fun n p hp=>by
  obtain ⟨g0,h1,ws,h2,h3⟩:=B.gl.2 n p hp
  exact ⟨g0,W.s0 _ h1,ws,h2.mono W.s0 h0,h3.same h0 h1⟩⟩
theorem rf_ok (B:Base P Γ θ w0 M0 S0) (hC:∀g,FnOk P Γ g (Γ.ent g).sg (cal g)) (W:RepW θ N w0 M0 S0 ι0 r ι S a w) {g:Nat} {kd:Nat×Ty} {args:List Operand} (hk:look Γ.ho g=some kd) (h2:Nat.ble 2 kd.1=true)
  (hcall:(execOp a.eval o).run P w=(callFunc g ⟨args.map a.eval⟩).run P w) (h:stepRf Γ N cal r o.dst kd args k=some q) (hK:Out θ N w0 M0 S0 ι0 k q r K'):o.wp P a w K' Q:=by
 have hR:=(B.ho g kd hk).2 h2
 obtain ⟨kd,e⟩:=kd
 unfold stepRf at h
 split at h
 ·rename_i x rest
  split at h
  ·rename_i n hx
   have ex:a.eval x=ι n:=evc_ok B W hx
   split at h
   ·rename_i e' xs hn
    split at h
    ·rename_i he
     simp only at he
     subst he
     rw[castL_eq] at h
     have h0:=grd_some h
     clear h
     obtain ⟨hlen,h⟩:=h0
     have hlen:=of_decide_eq_true hlen
     have hrow:RowAt θ S w e' xs (ι n):=by
      obtain ⟨h0,p,cap,h1,h2⟩:=W.obs n _ hn
      exact ⟨h0,p,cap,h1,h2⟩
     have hnS:∀b,blk (ι n)=some b→¬S b:=fun b hb=>(W.own n _ b hn hb).1
     simp only at h hR
     unfold stepRow at h
     split at h
     ·rename_i y z
      split at h
      ·rename_i i j hi hj
       obtain ⟨g0,h⟩:=grd_some h
       obtain ⟨g1,h⟩:=grd_some h
       obtain ⟨g2,h⟩:=grd_some h
       have g0:=of_decide_eq_true g0
       have g1:=of_decide_eq_true g1
       have g2:=of_decide_eq_true g2
       have ey:a.eval y=.int .i64 i:=evc_ok B W hi
       have ez:a.eval z=.int .i64 j:=evc_ok B W hj
       refine rowOut_ok W hn h hcall ?_ hK
       have:=(hR:DelOk P g e') θ S w xs (ι n) i.toNat j.toNat B.one W.sb hrow hnS hlen bo% bo%
       rw[show ((i.toNat:Nat):Int)=i by omega,show ((j.toNat:Nat):Int)=j by omega] at this
       simp only[List.map_cons,List.map_nil,ex,ey,ez]
       exact this
      ·cases h
     ·rename_i fo
      split at h
      ·rename_i h' f y τ x hf
       obtain ⟨hp,h⟩:=bif_some h
       simp only[Bool.and_eq_true] at hp
       obtain ⟨ys,hys,h⟩:=Option.bind_eq_some_iff.1 h
       obtain ⟨vs,us,e1,_,hx⟩:=(foV_ok B W hf:RCV ι θ S w (.clo h' false f y τ x) (a.eval fo))
       have he1:a.eval fo=.func (.func h') #[] ⟨us⟩:=e1
       refine rowOut_ok W hn h hcall ?_ hK
       simp only[List.map_cons,List.map_nil,ex,he1]
       refine (hR:KeepOk P g e') θ S w xs ys (ι n) h' us _ B.one W.sb hrow hnS hlen hys (B.en h' hp.2) fun z b _ hb S' W1 vz hS1 hS2 hbl hz=>?_
       unfold predLit at hb
       split at hb
       ·rename_i hI
        split at hb
        ·rename_i hO
         have hSM:∀b,S b→¬blk (ι n)=some b:=fun b hb he=>hnS b he hb
         have hx1:RepC θ S' W1 τ x us:=hx.mono hS1 (fun b hb=>hbl.block b (W.sb b hb) (hSM b hb))
         have:=predLit_ok (hC h') hp.1 hI hO hb B.one (fun b hb=>Nat.lt_of_lt_of_le (hS2 b hb) hbl.size) ((GlobOk.keep B W hbl hSM).up hS1) hz hx1
         exact this.entered (B.en h' hp.2 _ _)
        ·cases hb
       ·cases hb
      ·cases h
     ·rename_i fo
      split at h
      ·rename_i h' f y τ x hf
       obtain ⟨hp,h⟩:=bif_some h
       simp only[Bool.and_eq_true] at hp
       obtain ⟨h20,h⟩:=grd_some h
       obtain ⟨ys,hys,h⟩:=Option.bind_eq_some_iff.1 h
       obtain ⟨vs,us,e1,_,hx⟩:=(foV_ok B W hf:RCV ι θ S w (.clo h' false f y τ x) (a.eval fo))
       have he1:a.eval fo=.func (.func h') #[] ⟨us⟩:=e1
       have hI:Invk P g ⟨[ι n,.func (.func h') #[] ⟨us⟩]⟩ w fun E W=>E=.returned (.tuple #[])∧RowAt θ S W e' ys (ι n)∧Keep (fun b=>blk (ι n)=some b) w W:=by
        refine (hR:SortOk P g e') θ S w xs ys (ι n) h' us _ B.one W.sb hrow hnS (of_decide_eq_true h20) hys (B.en h' hp.2) fun z1 z2 b _ _ hb W1 u1 u2 hbl hz1 hz2=>?_
        unfold cmpLit at hb
        split at hb
        ·rename_i hI
         split at hb
         ·rename_i hO
          have hSM:∀b,S b→¬blk (ι n)=some b:=fun b hb he=>hnS b he hb
          have hx1:RepC θ S W1 τ x us:=hx.mono (fun _ h=>h) (fun b hb=>hbl.block b (W.sb b hb) (hSM b hb))
          have:=cmpLit_ok (hC h') hp.1 hI hO hb B.one (fun b hb=>Nat.lt_of_lt_of_le (W.sb b hb) hbl.size) (GlobOk.keep B W hbl hSM) hz1 hz2 hx1
          exact this.entered (B.en h' hp.2 _ _)
         ·cases hb
        ·cases hb
       simp only[List.map_cons,List.map_nil,ex,he1] at hcall
       refine wp_invk (G:=fun V W=>V=.tuple #[]∧RowAt θ S W e' ys (ι n)∧Keep (fun b=>blk (ι n)=some b) w W) hcall (hI.mono fun E W' ⟨h1,h2⟩=>⟨_,h1,rfl,h2⟩) fun V w' ⟨h1,h2,h3⟩=>?_
       subst h1
       obtain ⟨r1,g1,W1,p1,_⟩:=upd_ok h W hn h3.os h3.tape h3.output h3.size (fun b hb hne=>h3.block b hb hne) (h2.rob rfl)
       obtain ⟨r3,g3,W3,p3,_⟩:=put_ok (V:=.tuple #[]) g1 W1 (⟨[],rfl,.nil⟩:RSV ι θ S w' undefV (.tuple #[]))
       exact hK r3 _ S _ w' g3 W3 (p1.trans p3)
      ·cases h
     ·cases h
    ·cases h
   ·cases h
  ·cases h
 ·cases h
theorem ho_ok (B:Base P Γ θ w0 M0 S0) (hC:∀g,FnOk P Γ g (Γ.ent g).sg (cal g)) (W:RepW θ N w0 M0 S0 ι0 r ι S a w) {c:Call} {g:Nat} {kd:Nat×Ty} (ho:o.op=.call c) (hc:c.callee=.value (.func g)) (hk:look Γ.ho g=some kd)
  (h:stepHo Γ N cal r o.dst kd c.args.toList k=some q) (hK:Out θ N w0 M0 S0 ι0 k q r K'):o.wp P a w K' Q:=by
 have hcall:(execOp a.eval o).run P w=(callFunc g ⟨c.args.toList.map a.eval⟩).run P w:=by
  have:c.args.map a.eval=(⟨c.args.toList.map a.eval⟩:Array Value):=by simp[←Array.toList_map]
  simp[execOp,ho,resolve,hc,Act.eval,Deferred.ofValue,invoke]
  rw[this]
 generalize c.args.toList=args at h hcall
 unfold stepHo at h
 have h0:=wrap_not h
 clear h
 rcases h0 with ⟨h2,h⟩ | ⟨h2,h⟩
 ·exact rf_ok B hC W hk h2 hcall h hK
 split at h
 ·rename_i l fo
  split at h
  ·rename_i c' h' f y τ x hl hf
   split at h
   ·rename_i xs hxs
    obtain ⟨hp,h⟩:=bif_some h
    simp only[Bool.and_eq_true] at hp
    obtain ⟨hlen,h⟩:=grd_some h
    obtain ⟨i,hi,h⟩:=Option.bind_eq_some_iff.1 h
    have hV:=list_in W hxs (evc_ok B W hl)
    obtain ⟨vs,us,e1,_,hx⟩:=(foV_ok B W hf:RCV ι θ S w (.clo h' false f y τ x) (a.eval fo))
    have he1:a.eval fo=.func (.func h') ⟨[]⟩ ⟨us⟩:=e1
    refine ho_end W h hcall ?_ hK
    simp only[List.map_cons,List.map_nil,he1]
    refine (B.ho g kd hk).1 h2 θ (fun b=>b<w.heap.size) w xs (a.eval l) h' [] us _ i B.one (fun _ h=>h) hV (of_decide_eq_true hlen) hi (B.en h' hp.2) fun z b _ hb W1 vz hbl hz=>?_
    unfold predLit at hb
    split at hb
    ·rename_i hI
     split at hb
     ·rename_i hO
      have hx1:RepC θ (fun b=>b<w.heap.size) W1 τ x us:=hx.mono W.sb (fun b hb=>hbl.block b (W.sb b hb))
      have:=predLit_ok (hC h') hp.1 hI hO hb B.one (fun b hb=>Nat.lt_of_lt_of_le hb hbl.size) (GlobOk.at B W hbl) hz hx1
      exact (this.entered (B.en h' hp.2 _ _)).mono fun E W' ⟨k1,k2⟩=>⟨k1,hbl.trans (k2.mono hbl.size)⟩
     ·cases hb
    ·cases hb
   ·cases h
  ·rename_i c' h' f y x hl hf
   split at h
   ·rename_i xs hxs
    obtain ⟨hp,h⟩:=bif_some h
    simp only[Bool.and_eq_true] at hp
    obtain ⟨hlen,h⟩:=grd_some h
    obtain ⟨i,hi,h⟩:=Option.bind_eq_some_iff.1 h
    have hV:=list_in W hxs (evc_ok B W hl)
    obtain ⟨vs,us,e1,hy,hu⟩:=(foV_ok B W hf:RCV ι θ S w (.clo h' true f y .unit x) (a.eval fo))
    obtain ⟨⟨hp1,hp2⟩,hp3⟩:=hp
    have hag:aggOf f vs=.agg ⟨vs⟩:=by unfold aggOf;rw[if_pos hp3]
    have hus:us=[]:=hu
    have he1:a.eval fo=.func (.func h') ⟨[aggOf f vs]⟩ ⟨[]⟩:=by rw[hag,e1,hus];rfl
    refine ho_end W h hcall ?_ hK
    simp only[List.map_cons,List.map_nil,he1]
    refine (B.ho g kd hk).1 h2 θ (fun b=>b<w.heap.size) w xs (a.eval l) h' [aggOf f vs] [] _ i B.one (fun _ h=>h) hV (of_decide_eq_true hlen) hi (B.en h' hp2) fun z b _ hb W1 vz hbl hz=>?_
    unfold predBnd at hb
    split at hb
    ·rename_i hI
     split at hb
     ·rename_i hO
      have hy1:RepC θ (fun b=>b<w.heap.size) W1 f y vs:=hy.mono W.sb (fun b hb=>hbl.block b (W.sb b hb))
      have:=predBnd_ok (hC h') hp1 hI hO hb B.one (fun b hb=>Nat.lt_of_lt_of_le hb hbl.size) (GlobOk.at B W hbl) hy1 hz
      exact (this.entered (B.en h' hp2 _ _)).mono fun E W' ⟨k1,k2⟩=>⟨k1,hbl.trans (k2.mono hbl.size)⟩
     ·cases hb
    ·cases hb
   ·cases h
  ·cases h
 ·cases h
end Go.VM
namespace Go.VM
open Go.RowKit
variable {P:Program} {Γ:Ctx} {θ:Nat→Value} {N:Nat} {w0:World} {M0 S0:Nat→Prop} {ι0:Nat→Value} {r:Env} {ι:Nat→Value} {S:Nat→Prop} {a:Act} {w:World} {R:Type}
 {o:Oper} {K':Act→World→Prop} {Q:Exit→Act→World→Prop} {k:Env→Option R} {q:R} {cal:Cal Γ}
theorem step_ok (B:Base P Γ θ w0 M0 S0) (hC:∀g,FnOk P Γ g (Γ.ent g).sg (cal g)) (W:RepW θ N w0 M0 S0 ι0 r ι S a w) (h:step Γ N cal r o k=some q) (hK:Out θ N w0 M0 S0 ι0 k q r K'):o.wp P a w K' Q:=by
 unfold step at h
 split at h
 ·rename_i x ho;exact move_ok B W (.inl ho) h hK
 ·rename_i x ho;exact move_ok B W (.inr ho) h hK
 ·rename_i c x y ho;exact pick_ok B W ho h hK
 ·rename_i op t x y u ho;exact bin_ok B W ho h hK
 ·rename_i op t x ho;exact un_ok B W h ho hK
 ·rename_i src dst x ho;exact conv_ok B W ho h hK
 ·rename_i x ho;exact nil_ok B W ho h hK
 ·rename_i t ho;exact alloc_ok B W ho h hK
 ·rename_i t x ho;exact boxv_ok B W ho h hK
 ·rename_i t parts ho;exact build_ok B W ho h hK
 ·rename_i t len parts ho;exact buildSlice_ok B W ho h hK
 ·rename_i t len cap ho;exact make_ok B W ho h hK
 ·rename_i t x ho;exact load_ok B W ho h hK
 ·rename_i t x y ho;exact storeFull_ok B W ho h hK
 ·rename_i t x f ho;exact fieldAddr_ok B W ho h hK
 ·rename_i t x f ho;exact field_ok B W ho h hK
 ·rename_i t x i ho;exact idx_ok B W ho h hK
 ·rename_i t x i ho;exact index_ok B W ho h hK
 ·rename_i t x lo hi ho;exact slice_ok B W ho h hK
 ·rename_i t x hi mx ho;exact slice3_ok B W ho h hK
 ·rename_i x i ho;exact extract_ok B W ho h hK
 ·rename_i c ho
  unfold stepCall at h
  split at h
  ·rename_i g hc
   split at h
   ·rename_i kd hk;exact ho_ok B hC W ho hc hk h hK
   ·exact call_ok B hC W ho hc h hK
  ·rename_i hc
   split at h
   ·rename_i x t ha ht;exact len_ok B W ho hc ha ht h hK
   ·cases h
  ·rename_i hc
   split at h
   ·rename_i x y t u ha ht;exact append_ok B W ho hc ha ht h hK
   ·cases h
  ·rename_i hc
   split at h
   ·rename_i x y ha;exact min_ok (mx:=false) B W ho hc ha h hK
   ·cases h
  ·rename_i hc
   split at h
   ·rename_i x y ha;exact min_ok (mx:=true) B W ho hc ha h hK
   ·cases h
  ·cases h
 ·rename_i fn first caps ho;exact func_ok B W ho h hK
 ·cases h
end Go.VM
namespace Go.VM
open Go.RowKit
variable {P:Program} {Γ:Ctx} {θ:Nat→Value} {N:Nat} {w0:World} {M0 S0:Nat→Prop} {ι0:Nat→Value} {r:Env} {ι:Nat→Value} {S:Nat→Prop} {a:Act} {w:World}
theorem mkTV_ok {ι':Nat→Value} {t:Ty} {cs:List CV} {vs:List Value} {v:TV} {V:Value} (hc:All2 (RCV ι' θ S w) cs vs) (hV:V.cells=⟨vs⟩) (hs:(match v with | .one _=>!t.isS | .agg _=>t.isS)=true)
  (hv:RTV ι θ S w v V) (h1:∀c,v=.one c→V.oneCell'=true):RTV ι' θ S w (mkTV t cs) V:=by
 cases v with
 | one c =>
  have hs':t.isS=false:=by simpa using hs
  have:=cells_one (h1 c rfl)
  rw[this] at hV
  cases hV
  cases hc with
  | cons k1 k2=>cases k2;cases t <;> first | exact k1 | cases hs'
 | agg ds =>
  obtain ⟨us,rfl,_⟩:=hv
  have:us=vs:=by
   have:=hV
   simp only[Value.cells] at this
   exact congrArg Array.toList this
  subst this
  have hs':t.isS=true:=hs
  cases t <;> first | exact ⟨us,rfl,hc⟩ | cases hs'
theorem takeC_ok {ob:Nat→Option Ob} (hob:∀n o,ob n=some o→ROb ι θ S w n o) (hi:∀n,(ι n).oneCell'=true) (ht:∀n,(θ n).oneCell'=true) {own:Bool} {t:Ty} {v:TV} {V:Value} {x:t.den} {ns:List Nat} (h:takeC ob own t v=some (x,ns)) (hv:RTV ι θ S w v V) :
  ∃(Ls:List (Option Nat)),Ls.length=(bif own then lists t else 0)∧ns=Ls.filterMap id∧(∀n,n∈ns→∃e xs,ob n=some (.row e xs)) ∧
   ∀ι' m,(∀i L,Ls[i]? = some L→ι' (m+i)=valOf ι L)→RTV ι' θ S w (mkTV t (bif own then (ownCells t x m).1 else toCells t x)) V∧∀n o,look (bif own then (ownCells t x m).2 else []) n=some o→ROb ι' θ S w n o:=by
 unfold takeC at h
 cases own with
 | true =>
  simp only[cond_true] at h ⊢
  split at h
  ·rename_i y ms hy
   obtain ⟨hs,h⟩:=bif_some h
   cases h
   have hone:∀c,v=.one c→V.oneCell'=true:=fun c e=>by
    subst e
    have hc:okC c=true:=by
     cases c <;> first | rfl | skip
     case clo=>cases t <;> (try cases hs;done) <;> simp only[ownC,ofCells,cellsOf,adrOf] at hy <;> cases hy
     rename_i u
     cases t <;> (try cases hs;done) <;> simp only[ownC,ofCells,cellsOf] at hy <;> (try cases hy;done)
     ·have:isNil u=true:=by
       revert hy
       cases hn:isNil u with
       | true=>intro _;rfl
       | false=>intro hy;simp at hy
      rw[isNil_eq this];rfl
     ·have:isNil u=true:=by
       revert hy
       simp only[listOf]
       cases hn:isNil u with
       | true=>intro _;rfl
       | false=>intro hy;simp at hy
      rw[isNil_eq this];rfl
    exact RCV.one1 hi ht hv hc
   cases v with
   | one c =>
    obtain ⟨v1,v2,Ls,e12,h1,h2,h3,h4,h5⟩:=ownC_ok hob hy (All2.cons hv .nil:All2 (RCV ι θ S w) [c] [V])
    cases h1
    rw[List.append_nil] at e12
    refine ⟨Ls,h2,h3,h4,fun ι' m hι=>⟨?_,(h5 ι' m hι).2⟩⟩
    exact mkTV_ok (v:=.one c) (h5 ι' m hι).1 (by rw[cells_one (hone c rfl),e12]) hs hv hone
   | agg cs =>
    have hv':=hv
    obtain ⟨vs,rfl,hc⟩:=hv'
    obtain ⟨v1,v2,Ls,e12,h1,h2,h3,h4,h5⟩:=ownC_ok hob hy hc
    cases h1
    rw[List.append_nil] at e12
    refine ⟨Ls,h2,h3,h4,fun ι' m hι=>⟨?_,(h5 ι' m hι).2⟩⟩
    exact mkTV_ok (v:=.agg cs) (h5 ι' m hι).1 (by rw[e12];rfl) hs hv hone
  ·cases h
 | false =>
  simp only[cond_false] at h ⊢
  split at h
  ·rename_i y hy
   cases h
   obtain ⟨vs,hR,hV,hcl⟩:=denTV_ok (S':=S) (fun _ h=>h) none_ob ht hy hv
   refine ⟨[],rfl,rfl,fun n hn=>(by cases hn),fun ι' m _=>⟨?_,fun n o hn=>(by cases hn)⟩⟩
   have hc:=hR.cells (ι:=ι')
   cases t
   case unit=>exact ⟨vs,by rw[hV];rfl,hc⟩
   case pair=>exact ⟨vs,by rw[hV];rfl,hc⟩
   all_goals
    simp only[toCells] at hc
    cases hc with
    | cons k1 k2=>cases k2;rw[hV];exact k1
  ·cases h
end Go.VM
namespace Go.VM
open Go.RowKit
variable {P:Program} {Γ:Ctx} {θ:Nat→Value} {N:Nat} {w0:World} {M0 S0:Nat→Prop} {ι0:Nat→Value} {r:Env} {ι:Nat→Value} {S:Nat→Prop} {a:Act} {w:World}
theorem nodup_iff:∀l:List Nat,nodup l=true↔l.Nodup
 | []=>by simp[nodup]
 | n :: l=>by simp only[nodup,Bool.and_eq_true,Bool.not_eq_true',mem_false,nodup_iff l,List.nodup_cons]
theorem disj_iff:∀l m:List Nat,disj l m=true↔∀n,n∈l→n ∉ m
 | [],m=>by simp[disj]
 | n :: l,m=>by simp only[disj,Bool.and_eq_true,Bool.not_eq_true',mem_false,disj_iff l m,List.mem_cons,forall_eq_or_imp]
theorem look_none {α:Type} {l:List (Nat×α)} {n:Nat} (h:n ∉ keys l):look l n=none:=by
 cases hq:look l n with
 | none=>rfl
 | some v=>exact absurd (look_keys hq) h
theorem look_of_mem {α:Type}:∀ {l:List (Nat×α)} {p:Nat×α},(keys l).Nodup→p∈l→look l p.1=some p.2
 | [],p,_,h=>by cases h
 | q :: l,p,hn,h=>by
  obtain ⟨k,v⟩:=q
  simp only[keys,List.nodup_cons] at hn
  rw[look_cons]
  rcases List.mem_cons.1 h with rfl | h
  ·simp
  ·have hk:p.1∈keys l:=look_keys (look_of_mem hn.2 h)
   rw[if_neg (show ¬k=p.1 from fun e=>hn.1 (e ▸ hk))]
   exact look_of_mem hn.2 h
theorem filterMap_inj {α:Type} {f:α→Option Nat}:∀ {l:List α} {p p':α} {m:Nat},(l.filterMap f).Nodup→p∈l→p'∈l→f p=some m→f p'=some m→p=p'
 | [],p,_,_,_,h,_,_,_=>by cases h
 | q :: l,p,p',m,hn,hp,hp',e,e'=>by
  rcases List.mem_cons.1 hp with g | g <;> rcases List.mem_cons.1 hp' with g' | g'
  ·rw[g,g']
  ·rw[List.filterMap_cons,←g,e] at hn
   exact absurd (List.mem_filterMap.2 ⟨p',g',e'⟩:m∈l.filterMap f) (List.nodup_cons.1 hn).1
  ·rw[List.filterMap_cons,←g',e'] at hn
   exact absurd (List.mem_filterMap.2 ⟨p,g,e⟩:m∈l.filterMap f) (List.nodup_cons.1 hn).1
  ·rw[List.filterMap_cons] at hn
   split at hn
   ·exact filterMap_inj hn g g' e e'
   ·exact filterMap_inj (List.nodup_cons.1 hn).2 g g' e e'
def asgOf (m:Nat):List (Option Nat)→List (Nat×Option Nat)
 | []=>[]
 | L :: Ls=>(m,L) :: asgOf (m+1) Ls
theorem asgOf_keys:∀(Ls:List (Option Nat)) (m:Nat),keys (asgOf m Ls)=upFrom m Ls.length
 | [],_=>rfl
 | L :: Ls,m=>by simp[asgOf,keys,upFrom,asgOf_keys Ls]
theorem asgOf_vals:∀(Ls:List (Option Nat)) (m:Nat),(asgOf m Ls).filterMap (·.2)=Ls.filterMap id
 | [],_=>rfl
 | none :: Ls,m=>by simp[asgOf,asgOf_vals Ls]
 | some n :: Ls,m=>by simp[asgOf,asgOf_vals Ls]
theorem asgOf_get:∀(Ls:List (Option Nat)) (m i:Nat) (L:Option Nat),Ls[i]? = some L→(m+i,L)∈asgOf m Ls
 | [],_,_,_,h=>by simp at h
 | K :: Ls,m,0,L,h=>by cases h;simp[asgOf]
 | K :: Ls,m,i+1,L,h=>by
  have:=asgOf_get Ls (m+1) i L (by simpa using h)
  rw[show m+1+i=m+(i+1) by omega] at this
  exact List.mem_cons_of_mem _ this
theorem box_take (B1:∀n,(θ n).oneCell'=true) (W:RepW θ N w0 M0 S0 ι0 r ι S a w) {τ:Ty} {own:Bool} {cs:List CV} {vs:List Value} {x:τ.den} {ns:List Nat}
  (h:takeC r.obj own τ (boxTV τ cs)=some (x,ns)) (hc:All2 (RCV ι θ S w) cs vs) :
  ∃(Ls:List (Option Nat)),Ls.length=(bif own then lists τ else 0)∧ns=Ls.filterMap id∧(∀n,n∈ns→∃e xs,r.obj n=some (.row e xs)) ∧
   ∀ι' m,(∀i L,Ls[i]? = some L→ι' (m+i)=valOf ι L)→All2 (RCV ι' θ S w) (bif own then (ownCells τ x m).1 else toCells τ x) vs∧∀n o,look (bif own then (ownCells τ x m).2 else []) n=some o→ROb ι' θ S w n o:=by
 cases hs:τ.isS with
 | true =>
  unfold boxTV at h
  rw[hs,cond_true] at h
  obtain ⟨Ls,l1,l2,l3,l4⟩:=takeC_ok (fun n o h=>W.obs n o h) W.one B1 h (V:=.agg ⟨vs⟩) ⟨vs,rfl,hc⟩
  refine ⟨Ls,l1,l2,l3,fun ι' m hι=>⟨?_,(l4 ι' m hι).2⟩⟩
  have:=(l4 ι' m hι).1
  cases τ <;> first | (cases hs;done) | skip
  all_goals
   obtain ⟨us,e,k⟩:=this
   have:us=vs:=by simpa using e.symm
   subst this
   exact k
 | false =>
  unfold boxTV at h
  rw[hs,cond_false] at h
  cases hc with
  | nil=>cases own <;> cases τ <;> first | (cases hs;done) | cases h
  | cons k1 k2 =>
   cases k2 with
   | cons _ _=>cases own <;> cases τ <;> first | (cases hs;done) | cases h
   | nil =>
    obtain ⟨Ls,l1,l2,l3,l4⟩:=takeC_ok (fun n o h=>W.obs n o h) W.one B1 h k1
    refine ⟨Ls,l1,l2,l3,fun ι' m hι=>⟨?_,(l4 ι' m hι).2⟩⟩
    have:=(l4 ι' m hι).1
    cases τ <;> first | (cases hs;done) | skip
    all_goals cases own <;> exact .cons this .nil
theorem st_ok (B1:∀n,(θ n).oneCell'=true) (W:RepW θ N w0 M0 S0 ι0 r ι S a w):∀ {l:List LV} {x:(prodTy (l.map LV.ty)).den} {ns:List Nat},stOf r l=some (x,ns) →
  ∃asg:List (Nat×Option Nat),keys asg=newN l∧ns=asg.filterMap (·.2)∧(∀n,n∈ns→∃e xs,r.obj n=some (.row e xs)) ∧
   ∀ι',(∀p,p∈asg→ι' p.1=valOf ι p.2)→(∀n,n∈vNames l→ι' n=ι n) →
    (∀t v,look (stTm l x) t=some v→RSV ι' θ S w v (a.tmps.getD t undef))∧(∀n o,look (stOb l x) n=some o→ROb ι' θ S w n o∧(n∈newN l∨(n∈vNames l∧∃o',r.obj n=some o')))
 | [],x,ns,h=>by
  simp only[stOf,Option.some.injEq,Prod.mk.injEq] at h
  obtain ⟨_,rfl⟩:=h
  exact ⟨[],rfl,rfl,fun n h=>(by cases h),fun ι' _ _=>⟨fun t v h=>(by cases h),fun n o h=>(by cases h)⟩⟩
 | .tmp t τ own :: l,x,ns,h=>by
  simp only[stOf] at h
  split at h
  ·cases h
  ·rename_i p hp
   split at h
   ·cases h
   ·rename_i p2 hp2
    simp only[Option.some.injEq,Prod.mk.injEq] at h
    obtain ⟨rfl,rfl⟩:=h
    obtain ⟨asg,a1,a2,a3,a4⟩:=st_ok B1 W (x:=p2.1) (ns:=p2.2) hp2
    have hp':stTmp r t τ own=some p:=hp
    clear hp
    unfold stTmp at hp'
    split at hp'
    ·rename_i v hv
     obtain ⟨Ls,l1,l2,l3,l4⟩:=takeC_ok (fun n o h=>W.obs n o h) W.one B1 (x:=p.1) (ns:=p.2) hp' (W.tms t _ hv)
     refine ⟨asgOf (nm t 1) Ls++asg,?_,?_,?_,fun ι' h1 h2=>?_⟩
     ·rw[keys_append,asgOf_keys,a1,l1]
      cases own <;> rfl
     ·rw[List.filterMap_append,asgOf_vals,←l2,←a2]
     ·intro n hn
      rcases List.mem_append.1 hn with hn | hn
      ·exact l3 n hn
      ·exact a3 n hn
     ·obtain ⟨g1,g2⟩:=l4 ι' (nm t 1) (fun i L hL=>h1 _ (List.mem_append_left _ (asgOf_get Ls _ i L hL)))
      obtain ⟨g3,g4⟩:=a4 ι' (fun q hq=>h1 q (List.mem_append_right _ hq)) h2
      refine ⟨fun s u hs=>?_,fun n o hn=>?_⟩
      ·simp only[stTm] at hs
       rw[look_cons] at hs
       split at hs
       ·rename_i e;subst e;cases hs;exact g1
       ·exact g3 s u hs
      ·simp only[stOb] at hn
       rw[look_append] at hn
       cases hq:look (bif own then (ownCells τ p.1 (nm t 1)).2 else []) n with
       | some o' =>
        rw[hq] at hn;cases hn
        refine ⟨g2 n _ hq,.inl ?_⟩
        cases own with
        | false=>cases hq
        | true =>
         have:=Eq.mp (congrArg (n∈·) (ownCells_keys τ p.1 (nm t 1))) (look_keys hq)
         simp only[newN,cond_true,List.mem_append]
         exact .inl this
       | none =>
        rw[hq] at hn
        obtain ⟨k1,k2⟩:=g4 n o hn
        exact ⟨k1,k2.imp (fun h=>by simp only[newN,List.mem_append];exact .inr h) id⟩
    ·cases hp'
 | .box n0 τ own :: l,x,ns,h=>by
  simp only[stOf] at h
  split at h
  ·cases h
  ·rename_i p hp
   split at h
   ·cases h
   ·rename_i p2 hp2
    simp only[Option.some.injEq,Prod.mk.injEq] at h
    obtain ⟨rfl,rfl⟩:=h
    obtain ⟨asg,a1,a2,a3,a4⟩:=st_ok B1 W (x:=p2.1) (ns:=p2.2) hp2
    have hp':stBox r n0 τ own=some p:=hp
    clear hp
    unfold stBox at hp'
    split at hp'
    ·rename_i cs hcs
     obtain ⟨b,vs,hι,hlt,hc,hat,hfr⟩:=W.obs n0 _ hcs
     have key:∃(Ls:List (Option Nat)),Ls.length=(bif own then lists τ else 0)∧p.2=Ls.filterMap id∧(∀n,n∈p.2→∃e xs,r.obj n=some (.row e xs)) ∧
       ∀ι' m,(∀i L,Ls[i]? = some L→ι' (m+i)=valOf ι L)→All2 (RCV ι' θ S w) (bif own then (ownCells τ p.1 m).1 else toCells τ p.1) vs∧∀n o,look (bif own then (ownCells τ p.1 m).2 else []) n=some o→ROb ι' θ S w n o:=by
      exact box_take B1 W (x:=p.1) (ns:=p.2) hp' hc
     obtain ⟨Ls,l1,l2,l3,l4⟩:=key
     refine ⟨asgOf (n0+1) Ls++asg,?_,?_,?_,fun ι' h1 h2=>?_⟩
     ·rw[keys_append,asgOf_keys,a1,l1]
      cases own <;> rfl
     ·rw[List.filterMap_append,asgOf_vals,←l2,←a2]
     ·intro n hn
      rcases List.mem_append.1 hn with hn | hn
      ·exact l3 n hn
      ·exact a3 n hn
     ·obtain ⟨g1,g2⟩:=l4 ι' (n0+1) (fun i L hL=>h1 _ (List.mem_append_left _ (asgOf_get Ls _ i L hL)))
      obtain ⟨g3,g4⟩:=a4 ι' (fun q hq=>h1 q (List.mem_append_right _ hq)) (fun n hn=>h2 n (by simp only[vNames,List.mem_cons];exact .inr hn))
      have hn0:=h2 n0 (by simp[vNames])
      refine ⟨fun s u hs=>?_,fun n o hn=>?_⟩
      ·simp only[stTm] at hs
       exact g3 s u hs
      ·simp only[stOb] at hn
       rw[List.cons_append,look_cons] at hn
       split at hn
       ·rename_i e;subst e;cases hn
        exact ⟨⟨b,vs,hn0.trans hι,hlt,g1,hat,hfr⟩,.inr ⟨by simp[vNames],_,hcs⟩⟩
       ·rw[look_append] at hn
        cases hq:look (bif own then (ownCells τ p.1 (n0+1)).2 else []) n with
        | some o' =>
         rw[hq] at hn;cases hn
         refine ⟨g2 n _ hq,.inl ?_⟩
         cases own with
         | false=>cases hq
         | true =>
          have:=Eq.mp (congrArg (n∈·) (ownCells_keys τ p.1 (n0+1))) (look_keys hq)
          simp only[newN,cond_true,List.mem_append]
          exact .inl this
        | none =>
         rw[hq] at hn
         obtain ⟨k1,k2⟩:=g4 n o hn
         exact ⟨k1,k2.imp (fun h=>by simp only[newN,List.mem_append];exact .inr h) (fun h=>⟨by simp only[vNames,List.mem_cons];exact .inr h.1,h.2⟩)⟩
    ·cases hp'
 | .row n0 e :: l,x,ns,h=>by
  simp only[stOf] at h
  split at h
  ·cases h
  ·rename_i p hp
   split at h
   ·cases h
   ·rename_i p2 hp2
    simp only[Option.some.injEq,Prod.mk.injEq] at h
    obtain ⟨rfl,rfl⟩:=h
    obtain ⟨asg,a1,a2,a3,a4⟩:=st_ok B1 W (x:=p2.1) (ns:=p2.2) hp2
    have hp':stRow r n0 e=some p:=hp
    clear hp
    unfold stRow at hp'
    split at hp'
    ·rename_i e' xs hxs
     split at hp'
     ·rename_i he
      subst he
      cases hp'
      refine ⟨asg,a1,by simpa using a2,fun n hn=>a3 n (by simpa using hn),fun ι' h1 h2=>?_⟩
      obtain ⟨g3,g4⟩:=a4 ι' h1 (fun n hn=>h2 n (by simp only[vNames,List.mem_cons];exact .inr hn))
      have hn0:=h2 n0 (by simp[vNames])
      refine ⟨fun s u hs=>g3 s u (by simpa only [stTm] using hs),fun n o hn=>?_⟩
      simp only[stOb] at hn
      rw[look_cons] at hn
      split at hn
      ·rename_i e;subst e;cases hn
       obtain ⟨k0,q0,cap,k1,k2⟩:=W.obs n0 _ hxs
       exact ⟨⟨k0,q0,cap,hn0.trans k1,k2⟩,.inr ⟨by simp[vNames],_,hxs⟩⟩
      ·obtain ⟨k1,k2⟩:=g4 n o hn
       exact ⟨k1,k2.imp id (fun h=>⟨by simp only[vNames,List.mem_cons];exact .inr h.1,h.2⟩)⟩
     ·cases hp'
    ·cases hp'
end Go.VM
namespace Go.VM
open Go.RowKit
variable {P:Program} {Γ:Ctx} {θ:Nat→Value} {N:Nat} {w0:World} {M0 S0:Nat→Prop} {ι0:Nat→Value} {r:Env} {ι:Nat→Value} {S:Nat→Prop} {a:Act} {w:World} {R:Type} {cal:Cal Γ} {H:List (Nat×List Nat×List LV)}
theorem keys_mem {α:Type} {n:Nat}:∀ {l:List (Nat×α)},n∈keys l→∃v,(n,v)∈l
 | [],h=>by cases h
 | (k,v) :: l,h=>by
  simp only[keys,List.mem_cons] at h
  rcases h with rfl | h
  ·exact ⟨v,by simp⟩
  ·obtain ⟨u,hu⟩:=keys_mem h
   exact ⟨u,List.mem_cons_of_mem _ hu⟩
theorem with_ok (B1:∀n,(θ n).oneCell'=true) (W:RepW θ N w0 M0 S0 ι0 r ι S a w) {c:Env} {l:List LV} {x:(prodTy (l.map LV.ty)).den} {ns:List Nat} (hst:stOf r l=some (x,ns))
  (htm:∀t v,look c.tm t=some v→r.get t=some v) (hob:∀n o,look c.ob n=some o→r.obj n=some o)
  (h1:ns.Nodup) (h2:∀n,n∈ns→n ∉ vNames l∧look c.ob n=none) (h3:(newN l).Nodup) (h3':∀n,n∈newN l→n ∉ vNames l) (h4:∀n,n∈newN l∨n∈vNames l→look c.ob n=none)
  (h6:∀t v,look c.tm t=some v→∀n,n∈v.names→n ∉ newN l) (h7:∀t v,look c.ob t=some v→∀n,n∈v.names→n ∉ newN l) (h8:∀n,n∈newN l→n<parBase) :
  ∃ι',RepW θ N w0 M0 S0 ι0 (c.with l x) ι' S a w:=by
 obtain ⟨asg,a1,a2,a3,a4⟩:=st_ok B1 W hst
 let ι':Nat→Value:=fun n=>match look asg n with | some L=>valOf ι L | none=>ι n
 have e1:∀p,p∈asg→ι' p.1=valOf ι p.2:=fun p hp=>by
  have:=look_of_mem (by rw[a1];exact h3) hp
  simp only[ι',this]
 have e2:∀n,n ∉ newN l→ι' n=ι n:=fun n hn=>by
  have:=look_none (l:=asg) (n:=n) (by rw[a1];exact hn)
  simp only[ι',this]
 obtain ⟨a5,a6⟩:=a4 ι' e1 (fun n hn=>e2 n (fun h=>h3' n h hn))
 have src:∀n o b,(c.with l x).obj n=some o→blk (ι' n)=some b→∃m o',r.obj m=some o'∧ι' n=ι m∧((∃p,p∈asg∧p.1=n∧p.2=some m)∨(m=n∧n ∉ newN l∧(n∈vNames l∨(look c.ob n=some o∧n ∉ vNames l)))):=fun n o b hn hb=>by
  have hn:(look (stOb l x) n).or (look c.ob n)=some o:=by rw[←look_append];exact hn
  cases hq:look (stOb l x) n with
  | some o1 =>
   obtain ⟨_,hk⟩:=a6 n o1 hq
   rcases hk with hk | ⟨hk,o',ho'⟩
   ·rw[←a1] at hk
    have hL:∃L,(n,L)∈asg:=keys_mem hk
    obtain ⟨L,hL⟩:=hL
    have hv:=e1 _ hL
    cases L with
    | none=>rw[hv] at hb;cases hb
    | some m =>
     obtain ⟨e,xs,hm⟩:=a3 m (by rw[a2];exact List.mem_filterMap.2 ⟨_,hL,rfl⟩)
     exact ⟨m,_,hm,hv,.inl ⟨_,hL,rfl,rfl⟩⟩
   ·exact ⟨n,o',ho',e2 n (fun h=>h3' n h hk),.inr ⟨rfl,fun h=>h3' n h hk,.inl hk⟩⟩
  | none =>
   rw[hq] at hn
   have hn:look c.ob n=some o:=hn
   have hnn:n ∉ newN l:=fun h=>by rw[h4 n (.inl h)] at hn;cases hn
   have hnv:n ∉ vNames l:=fun h=>by rw[h4 n (.inr h)] at hn;cases hn
   exact ⟨n,o,hob n o hn,e2 n hnn,.inr ⟨rfl,hnn,.inr ⟨hn,hnv⟩⟩⟩
 refine ⟨ι',W.s0,W.sn,W.sb,fun t v hv=>?_,fun n o hn=>?_,fun n o b hn hb=>?_,fun n m o o' b hn hm hb hb'=>?_,W.keep,W.size,fun n=>?_,fun n hn=>(e2 n (fun h=>by have:=h8 n h;omega)).trans (W.fx n hn),W.dfs⟩
 ·have hv:(look (stTm l x) t).or (look c.tm t)=some v:=by rw[←look_append];exact hv
  cases hq:look (stTm l x) t with
  | some v1=>rw[hq] at hv;cases hv;exact a5 t _ hq
  | none =>
   rw[hq] at hv
   have hv:look c.tm t=some v:=hv
   exact RSV.mono (fun _ h=>h) (fun _ _=>rfl) (fun n hn=>e2 n (h6 t v hv n hn)) (W.tms t v (htm t v hv))
 ·have hn':(look (stOb l x) n).or (look c.ob n)=some o:=by rw[←look_append];exact hn
  cases hq:look (stOb l x) n with
  | some v1=>rw[hq] at hn';cases hn';exact (a6 n _ hq).1
  | none =>
   rw[hq] at hn'
   have hn':look c.ob n=some o:=hn'
   exact ROb.mono (fun _ h=>h) (fun _ _=>rfl) (Nat.le_refl _) (e2 n (fun h=>by rw[h4 n (.inl h)] at hn';cases hn')) (fun m hm=>e2 m (h7 n o hn' m hm)) (fun _ _=>rfl) (W.obs n o (hob n o hn'))
 ·obtain ⟨m,o',hm,he,_⟩:=src n o b hn hb
  rw[he] at hb
  exact W.own m o' b hm hb
 ·obtain ⟨k,p,hk,he,hs⟩:=src n o b hn hb
  obtain ⟨k',p',hk',he',hs'⟩:=src m o' b hm hb'
  rw[he] at hb
  rw[he'] at hb'
  have hkk:k=k':=W.inj k k' p p' b hk hk' hb hb'
  subst hkk
  rcases hs with ⟨u,hu,hu1,hu2⟩ | ⟨rfl,hs1,hs2⟩
  ·have hkn:k∈ns:=by rw[a2];exact List.mem_filterMap.2 ⟨u,hu,hu2⟩
   rcases hs' with ⟨u',hu',hu1',hu2'⟩ | ⟨rfl,hs1',hs2'⟩
   ·have:u=u':=filterMap_inj (f:=(·.2)) (by rw[←a2];exact h1) hu hu' hu2 hu2'
    rw[←hu1,←hu1',this]
   ·obtain ⟨g1,g2⟩:=h2 k hkn
    rcases hs2' with hs2' | ⟨hs2',_⟩
    ·exact absurd hs2' g1
    ·rw[g2] at hs2';cases hs2'
  ·rcases hs' with ⟨u',hu',hu1',hu2'⟩ | ⟨hs0',hs1',hs2'⟩
   ·have hkn:k∈ns:=by rw[a2];exact List.mem_filterMap.2 ⟨u',hu',hu2'⟩
    obtain ⟨g1,g2⟩:=h2 k hkn
    rcases hs2 with hs2 | ⟨hs2,_⟩
    ·exact absurd hs2 g1
    ·rw[g2] at hs2;cases hs2
   ·exact hs0'
 ·simp only[ι']
  split
  ·rename_i L _
   cases L with
   | none=>rfl
   | some m=>exact W.one m
  ·exact W.one n
theorem tmps_get (W:RepW θ N w0 M0 S0 ι0 r ι S a w) {t:Nat} {b:Bool} (h:r.get t=some (.c (.bool b))):a.tmps[t]? = some (.bool b):=by
 have:a.tmps.getD t undef=.bool b:=W.tms t _ h
 rw[Array.getD_eq_getD_getElem?] at this
 cases hq:a.tmps[t]? with
 | none=>rw[hq] at this;cases this
 | some v=>rw[hq] at this;rw[show v=.bool b from this]
theorem lit_ok (W:RepW θ N w0 M0 S0 ι0 r ι S a w) {t:Nat} {b:Bool} (h:r.get t=some (.c (.bool b))):RepW θ N w0 M0 S0 ι0 (r.lit (.tmp t) b) ι S a w∧Prot r (r.lit (.tmp t) b):=by
 cases hm:mem t r.rt with
 | true =>
  have e:r.lit (.tmp t) b=r:=by simp[Env.lit,hm]
  rw[e]
  exact ⟨W,.refl r⟩
 | false =>
  have e:r.lit (.tmp t) b = { r with tm:=(t,SV.c (.bool b)) :: del t r.tm }:=by simp[Env.lit,hm]
  rw[e]
  have hm:=(mem_false _ _).1 hm
  have hg:∀s,Env.get { r with tm:=(t,SV.c (.bool b)) :: del t r.tm } s=r.get s:=fun s=>by
   show look _ _=_
   rw[look_cons,look_del]
   by_cases e:t=s
   ·subst e;rw[if_pos rfl];exact h.symm
   ·rw[if_neg e,if_neg e];rfl
  exact ⟨⟨W.s0,W.sn,W.sb,fun s v hv=>W.tms s v (by rw[←hg];exact hv),W.obs,W.own,W.inj,W.keep,W.size,W.one,W.fx,W.dfs⟩,⟨rfl,rfl,fun s _=>hg s,fun _ _=>rfl⟩⟩
theorem slotOf_ok {ops:Array Oper} {j t:Nat} (h:slotOf ops.toList j=some t):(ops[j]?).bind (·.dst)=some t:=by
 unfold slotOf at h
 split at h
 ·rename_i o l hl
  have:ops.toList[j]? = some o:=by rw[←List.head?_drop,hl];rfl
  rw[←Array.getElem?_toList,this]
  exact h
 ·cases h
def ExO (k:Env→Option R) (q:R) (θ:Nat→Value) (N:Nat) (w0:World) (M0 S0:Nat→Prop) (ι0:Nat→Value) (r:Env) (Q:Exit→Act→World→Prop):Prop :=
 ∀r' ι' S' a' w',k r'=some q→RepW θ N w0 M0 S0 ι0 r' ι' S' a' w'→Prot r r'→Q .normal a' w'
theorem execOps_ok (B:Base P Γ θ w0 M0 S0) (hC:∀g,FnOk P Γ g (Γ.ent g).sg (cal g)) (ops:Array Oper) {Q:Exit→Act→World→Prop} {k:Env→Option R} {q:R}:∀(l:List Oper) {r:Env} {ι:Nat→Value} {S:Nat→Prop} {a:Act} {w:World},
  execOps Γ N cal ops.toList l r k=some q→RepW θ N w0 M0 S0 ι0 r ι S a w→ExO k q θ N w0 M0 S0 ι0 r Q→wpList P ops Q l a w
 | [],r,ι,S,a,w,h,W,hQ=>hQ _ _ _ _ _ h W (.refl r)
 | o :: l,r,ι,S,a,w,h,W,hQ=>by
  have rest:∀ {r1:Env},Prot r r1→Out θ N w0 M0 S0 ι0 (fun r=>execOps Γ N cal ops.toList l r k) q r1 (wpList P ops Q l):=fun p r' ι' S' a' w' h' W' p' =>
   execOps_ok B hC ops l h' W' fun r2 ι2 S2 a2 w2 h2 W2 p2=>hQ _ _ _ _ _ h2 W2 ((p.trans p').trans p2)
  have skip:∀ {r1:Env},Prot r r1→RepW θ N w0 M0 S0 ι0 r1 ι S a w→(r1.put N o.dst undefV fun r=>execOps Γ N cal ops.toList l r k)=some q→wpList P ops Q l (a.put o.dst undef) w:=fun p W1 h1=>by
   obtain ⟨r',g1,W',p',_⟩:=put_ok (V:=undef) h1 W1 ⟨[],rfl,.nil⟩
   exact execOps_ok B hC ops l g1 W' fun r2 ι2 S2 a2 w2 h2 W2 p2=>hQ _ _ _ _ _ h2 W2 ((p.trans p').trans p2)
  unfold execOps at h
  unfold wpList
  split at h
  ·rename_i hg
   have hw:Region.wanted o (yielded ops a.tmps)=true:=by simp[Region.wanted,hg]
   rw[if_pos hw]
   exact .inl (step_ok B hC W h (rest (.refl r)))
  ·rename_i j want hg
   split at h
   ·cases h
   ·rename_i t ht
    have ht:=slotOf_ok ht
    split at h
    ·rename_i b hb
     have hy:yielded ops a.tmps j=some b:=by
      simp only[yielded,ht,Option.bind_some,tmps_get W hb]
     obtain ⟨W1,p1⟩:=lit_ok W hb
     have hwd:Region.wanted o (yielded ops a.tmps)=(b==want):=by
      simp only[Region.wanted,hg,hy]
      cases b <;> cases want <;> rfl
     cases b <;> cases want <;> simp only[cond_true,cond_false] at h
     ·rw[if_pos (by rw[hwd];rfl)];exact .inl (step_ok B hC W1 h (rest p1))
     ·rw[if_neg (by rw[hwd];decide)];exact skip p1 W1 h
     ·rw[if_neg (by rw[hwd];decide)];exact skip p1 W1 h
     ·rw[if_pos (by rw[hwd];rfl)];exact .inl (step_ok B hC W1 h (rest p1))
    ·rename_i hb
     have hv:a.tmps.getD t undef=undef:=by
      obtain ⟨us,e1,e2⟩:=W.tms t _ hb
      cases e2
      exact e1
     have hy:yielded ops a.tmps j=none:=by
      simp only[yielded,ht,Option.bind_some]
      rw[Array.getD_eq_getD_getElem?] at hv
      cases hq:a.tmps[t]? with
      | none=>rfl
      | some v=>rw[hq] at hv;rw[show v=undef from hv];rfl
     rw[if_neg (by simp[Region.wanted,hg,hy])]
     exact skip (.refl r) W h
    ·cases h
end Go.VM
namespace Go.VM
open Go.RowKit
variable {Γ:Ctx} {N:Nat} {cal:Cal Γ} {R:Type} {r r2:Env} {o:Oper} {k:Env→Option R} {q:R}
structure Le (r r2:Env):Prop where
 tm:∀t v,r.get t=some v→r2.get t=some v
 ob:∀n o,r.obj n=some o→r2.obj n=some o
 rt:r2.rt=r.rt
 rn:r2.rn=r.rn
theorem Le.eval (h:Le r r2) {x:Operand} {v:SV} (hv:r.eval Γ x=some v):r2.eval Γ x=some v:=by
 cases x with
 | tmp t=>exact h.tm t v hv
 | _=>exact hv
theorem Le.evc (h:Le r r2) {x:Operand} {c:CV} (hv:r.evc Γ x=some c):r2.evc Γ x=some c:=by
 unfold Env.evc at hv ⊢
 split at hv
 ·rename_i c' hc
  rw[h.eval hc];exact hv
 ·cases hv
theorem listOf_le {ob ob2:Nat→Option Ob} (h:∀n o,ob n=some o→ob2 n=some o) {e:Ty} {c:CV} {xs:List e.den} (hx:listOf ob e c=some xs):listOf ob2 e c=some xs:=by
 cases c <;> (try exact hx)
 rename_i n
 simp only[listOf] at hx ⊢
 split at hx
 ·rename_i e' ys hn
  rw[h _ _ hn];exact hx
 ·cases hx
theorem ofCells_le {ob ob2:Nat→Option Ob} (h:∀n o,ob n=some o→ob2 n=some o):∀ {t:Ty} {cs:List CV} {p:t.den×List CV},ofCells ob t cs=some p→ofCells ob2 t cs=some p
 | .unit,cs,p,hx=>hx
 | .pair a b,cs,p,hx=>by
  simp only[ofCells] at hx ⊢
  split at hx
  ·cases hx
  ·rename_i p1 h1
   split at hx
   ·cases hx
   ·rename_i p2 h2
    rw[ofCells_le h h1]
    simp only[ofCells_le h h2]
    exact hx
 | .int _,[],p,hx=>hx
 | .bool,[],p,hx=>hx
 | .str,[],p,hx=>hx
 | .opq,[],p,hx=>hx
 | .adr _,[],p,hx=>hx
 | .err,[],p,hx=>hx
 | .rd _,[],p,hx=>hx
 | .lst _,[],p,hx=>hx
 | .int _,c :: cs,p,hx=>by cases c <;> exact hx
 | .bool,c :: cs,p,hx=>by cases c <;> exact hx
 | .str,c :: cs,p,hx=>by cases c <;> exact hx
 | .opq,c :: cs,p,hx=>by cases c <;> exact hx
 | .adr _,c :: cs,p,hx=>by cases c <;> exact hx
 | .err,c :: cs,p,hx=>by cases c <;> exact hx
 | .rd e,c :: cs,p,hx=>by
  simp only[ofCells] at hx ⊢
  split at hx
  ·rename_i xs hxs
   rw[listOf_le h hxs];exact hx
  ·cases hx
 | .lst e,c :: cs,p,hx=>by
  simp only[ofCells] at hx ⊢
  split at hx
  ·rename_i xs hxs
   rw[listOf_le h hxs];exact hx
  ·cases hx
theorem denTV_le {ob ob2:Nat→Option Ob} (h:∀n o,ob n=some o→ob2 n=some o) {t:Ty} {v:TV} {x:t.den} (hx:denTV ob t v=some x):denTV ob2 t v=some x:=by
 unfold denTV at hx ⊢
 split at hx
 ·rename_i y hy
  rw[ofCells_le h hy];exact hx
 ·cases hx
theorem Le.rd (h:Le r r2) {size:Nat} {c:CV} {cs:List CV} (hx:r.rd size c=some cs):r2.rd size c=some cs:=by
 cases c <;> (try exact hx)
 ·simp only[Env.rd] at hx ⊢
  split at hx
  ·rename_i ds hn;rw[h.ob _ _ hn];exact hx
  ·cases hx
 ·simp only[Env.rd] at hx ⊢
  split at hx
  ·rename_i e ys hn;rw[h.ob _ _ hn];exact hx
  ·cases hx
theorem Le.parts (h:Le r r2):∀ {l:List (Nat×Operand)} {vs:List (Nat×SV)},evParts Γ r l=some vs→evParts Γ r2 l=some vs
 | [],vs,hx=>hx
 | (i,x) :: l,vs,hx=>by
  simp only[evParts] at hx ⊢
  split at hx
  ·rename_i v hv
   split at hx
   ·rename_i us hu
    rw[h.eval hv]
    simp only[h.parts hu]
    exact hx
   ·cases hx
  ·cases hx
theorem Le.args (h:Le r r2):∀ {l:List Operand} {vs:List SV},evArgs Γ r l=some vs→evArgs Γ r2 l=some vs
 | [],vs,hx=>hx
 | x :: l,vs,hx=>by
  simp only[evArgs] at hx ⊢
  split at hx
  ·rename_i v hv
   split at hx
   ·rename_i us hu
    rw[h.eval hv]
    simp only[h.args hu]
    exact hx
   ·cases hx
  ·cases hx
theorem Le.opt (h:Le r r2) {x:Option Operand} {c:Option CV} (hx:evOpt Γ r x=some c):evOpt Γ r2 x=some c:=by
 cases x with
 | none=>exact hx
 | some x =>
  simp only[evOpt] at hx ⊢
  split at hx
  ·rename_i c' hc;rw[h.evc hc];exact hx
  ·cases hx
def Fr (r:Env) (n:Nat):Prop:=freshT n r.tm=true∧freshO n r.ob=true
def Res (Γ:Ctx) (N:Nat) (cal:Cal Γ) (r:Env) (o:Oper) (k:Env→Option R) (q:R):Prop :=
 ∃v obs,k (addD ⟨o.dst,v,obs⟩ r)=some q∧∀(R2:Type) (r2:Env) (k2:Env→Option R2),Le r r2→(∀n,n∈keys obs→Fr r2 n)→step Γ N cal r2 o k2=k2 (addD ⟨o.dst,v,obs⟩ r2)
theorem put_res {d:Option Nat} {v:SV} (h:r.put N d v k=some q):k (addD ⟨d,v,[]⟩ r)=some q∧∀(R2:Type) (r2:Env) (k2:Env→Option R2),Le r r2→r2.put N d v k2=k2 (addD ⟨d,v,[]⟩ r2):=by
 cases d with
 | none=>exact ⟨h,fun R2 r2 k2 _=>rfl⟩
 | some t =>
  obtain ⟨hb,h⟩:=bif_some h
  refine ⟨h,fun R2 r2 k2 hl=>?_⟩
  have e:(Nat.blt t N && !mem t r2.rt)=true:=by rw[hl.rt];exact hb
  simp only[Env.put]
  rw[e]
  rfl
theorem freshO_append {n:Nat}:∀ {l l':List (Nat×Ob)},freshO n (l++l')=(freshO n l&&freshO n l')
 | [],l'=>by simp[freshO]
 | (m,ob) :: l,l'=>by simp only[List.cons_append,freshO,freshO_append (l:=l),Bool.and_assoc]
theorem news_res {d:Option Nat} {v:SV}:∀ {l:List (Nat×Ob)} {r:Env} {k:Env→Option R},(r.news l fun r=>r.put N d v k)=some q →
  ∃obs,k (addD ⟨d,v,obs⟩ r)=some q∧(∀n,n∈keys obs↔n∈keys l)∧∀(R2:Type) (r2:Env) (k2:Env→Option R2),Le r r2→(∀n,n∈keys l→Fr r2 n)→(r2.news l fun r=>r.put N d v k2)=k2 (addD ⟨d,v,obs⟩ r2):=by
 suffices H:∀ {l:List (Nat×Ob)} {pre:List (Nat×Ob)} {r:Env} {k:Env→Option R},((Env.news { r with ob:=pre++r.ob } l) fun r=>r.put N d v k)=some q →
   ∃obs,k (addD ⟨d,v,obs⟩ r)=some q∧(∀n,n∈keys obs↔n∈keys l∨n∈keys pre)∧∀(R2:Type) (r2:Env) (k2:Env→Option R2),Le r r2→(∀n,n∈keys l→Fr r2 n)→((Env.news { r2 with ob:=pre++r2.ob } l) fun r=>r.put N d v k2)=k2 (addD ⟨d,v,obs⟩ r2) by
  intro l r k h
  obtain ⟨obs,h1,h2,h3⟩:=H (l:=l) (pre:=[]) (r:=r) (k:=k) h
  exact ⟨obs,h1,fun n=>by rw[h2];simp[keys],fun R2 r2 k2 hl hf=>h3 R2 r2 k2 hl hf⟩
 intro l
 induction l with
 | nil =>
  intro pre r k h
  simp only[Env.news] at h
  refine ⟨pre,?_,fun n=>by simp[keys],fun R2 r2 k2 hl _=>?_⟩
  ·cases d with
   | none=>exact h
   | some t=>obtain ⟨hb,h⟩:=bif_some h;exact h
  ·simp only[Env.news]
   cases d with
   | none=>rfl
   | some t =>
    obtain ⟨hb,h⟩:=bif_some h
    have e:(Nat.blt t N && !mem t r2.rt)=true:=by rw[hl.rt];exact hb
    simp only[Env.put]
    rw[e]
    rfl
 | cons p l ih =>
  intro pre r k h
  obtain ⟨n,ob⟩:=p
  simp only[Env.news] at h
  obtain ⟨hb,h⟩:=bif_some h
  obtain ⟨obs,h1,h2,h3⟩:=ih (pre:=(n,ob) :: pre) (r:=r) (k:=k) h
  refine ⟨obs,h1,fun m=>by rw[h2];simp only[keys,List.mem_cons];exact or_left_comm.trans or_assoc.symm,fun R2 r2 k2 hl hf=>?_⟩
  rw[←h3 R2 r2 k2 hl (fun m hm=>hf m (by simp[keys,hm]))]
  have hfn:=hf n (by simp[keys])
  simp only[Env.news,Env.new]
  simp only[Env.fresh,Bool.and_eq_true,freshO_append] at hb
  have e:(Env.fresh { r2 with ob:=pre++r2.ob } n && !mem n r2.rn&&Nat.blt n parBase)=true:=by
   simp only[Env.fresh,freshO_append,Bool.and_eq_true,hl.rn]
   exact ⟨⟨⟨hfn.1,hb.1.1.2.1,hfn.2⟩,hb.1.2⟩,hb.2⟩
  rw[e]
  rfl
theorem new_res {d:Option Nat} {v:SV} {n:Nat} {ob:Ob} (h:(r.new n ob fun r=>r.put N d v k)=some q) :
  k (addD ⟨d,v,[(n,ob)]⟩ r)=some q∧∀(R2:Type) (r2:Env) (k2:Env→Option R2),Le r r2→Fr r2 n→(r2.new n ob fun r=>r.put N d v k2)=k2 (addD ⟨d,v,[(n,ob)]⟩ r2):=by
 obtain ⟨hb,h⟩:=bif_some h
 have hp:k (addD ⟨d,v,[(n,ob)]⟩ r)=some q∧∀(R2:Type) (r2:Env) (k2:Env→Option R2),Le r r2→Env.put { r2 with ob:=(n,ob) :: r2.ob } N d v k2=k2 (addD ⟨d,v,[(n,ob)]⟩ r2):=by
  cases d with
  | none=>exact ⟨h,fun R2 r2 k2 _=>rfl⟩
  | some t =>
   obtain ⟨hb,h⟩:=bif_some h
   refine ⟨h,fun R2 r2 k2 hl=>?_⟩
   have e:(Nat.blt t N && !mem t r2.rt)=true:=by rw[hl.rt];exact hb
   simp only[Env.put]
   rw[e]
   rfl
 refine ⟨hp.1,fun R2 r2 k2 hl hf=>?_⟩
 simp only[Env.fresh,Bool.and_eq_true] at hb
 have e:(r2.fresh n && !mem n r2.rn&&Nat.blt n parBase)=true:=by
  simp only[Env.fresh,Bool.and_eq_true,hl.rn]
  exact ⟨⟨⟨hf.1,hf.2⟩,hb.1.2⟩,hb.2⟩
 simp only[Env.new]
 rw[e]
 exact hp.2 R2 r2 k2 hl
end Go.VM
namespace Go.VM
open Go.RowKit
variable {Γ:Ctx} {N:Nat} {cal:Cal Γ} {R:Type} {r r2:Env} {o:Oper} {k:Env→Option R} {q:R}
theorem res_put {v:SV} (h:r.put N o.dst v k=some q) (he:∀(R2:Type) (r2:Env) (k2:Env→Option R2),Le r r2→step Γ N cal r2 o k2=r2.put N o.dst v k2):Res Γ N cal r o k q:=by
 obtain ⟨h1,h2⟩:=put_res h
 exact ⟨v,[],h1,fun R2 r2 k2 hl _=>(he R2 r2 k2 hl).trans (h2 R2 r2 k2 hl)⟩
theorem res_new {v:SV} {n:Nat} {ob:Ob} (h:(r.new n ob fun r=>r.put N o.dst v k)=some q) (he:∀(R2:Type) (r2:Env) (k2:Env→Option R2),Le r r2→step Γ N cal r2 o k2=r2.new n ob fun r=>r.put N o.dst v k2):Res Γ N cal r o k q:=by
 obtain ⟨h1,h2⟩:=new_res h
 exact ⟨v,[(n,ob)],h1,fun R2 r2 k2 hl hf=>(he R2 r2 k2 hl).trans (h2 R2 r2 k2 hl (hf n (by simp[keys])))⟩
theorem move_res {x:Operand} (ho:o.op=.move x) (h:step Γ N cal r o k=some q):Res Γ N cal r o k q:=by
 simp only[step,ho] at h
 split at h
 ·rename_i v hv
  exact res_put h fun R2 r2 k2 hl=>by simp only[step,ho,hl.eval hv]
 ·cases h
theorem assign_res {x:Operand} (ho:o.op=.assign x) (h:step Γ N cal r o k=some q):Res Γ N cal r o k q:=by
 simp only[step,ho] at h
 split at h
 ·rename_i v hv
  exact res_put h fun R2 r2 k2 hl=>by simp only[step,ho,hl.eval hv]
 ·cases h
theorem pick_res {c x y:Operand} (ho:o.op=.pick c x y) (h:step Γ N cal r o k=some q):Res Γ N cal r o k q:=by
 simp only[step,ho,stepPick] at h
 split at h
 ·rename_i b hb
  split at h
  ·rename_i u v hu hv
   split at h
   ·exact res_put h fun R2 r2 k2 hl=>by simp only[step,ho,stepPick,hl.eval hu,hl.eval hv,hl.evc hb]
   ·rename_i hno
    have key:(if b then r.put N o.dst u k else r.put N o.dst v k)=some q:=by cases b <;> exact h
    have he:∀(R2:Type) (r2:Env) (k2:Env→Option R2),Le r r2→step Γ N cal r2 o k2=bif b then r2.put N o.dst u k2 else r2.put N o.dst v k2:=fun R2 r2 k2 hl=>by
     simp only[step,ho,stepPick,hl.eval hu,hl.eval hv,hl.evc hb]
    cases b with
    | true=>exact res_put h he
    | false=>exact res_put h he
  ·cases h
 ·cases h
theorem intOp_one {op:BinOp} {kd:IntKind} {x y:Int} {f:CV→Option R} (h:intOp op kd x y f=some q):∃c,f c=some q∧∀(R2:Type) (f2:CV→Option R2),intOp op kd x y f2=f2 c:=by
 cases op <;> simp only[intOp] at h ⊢ <;> (try cases h;done)
 case quo=>obtain ⟨h1,h⟩:=grd_some h;exact ⟨_,h,fun R2 f2=>by rw[h1];rfl⟩
 case rem=>obtain ⟨h1,h⟩:=grd_some h;exact ⟨_,h,fun R2 f2=>by rw[h1];rfl⟩
 all_goals exact ⟨_,h,fun R2 f2=>rfl⟩
theorem shOp_one {op:BinOp} {kd:IntKind} {x y:Int} {f:CV→Option R} (h:shOp op kd x y f=some q):∃c,f c=some q∧∀(R2:Type) (f2:CV→Option R2),shOp op kd x y f2=f2 c:=by
 cases op <;> simp only[shOp] at h ⊢ <;> (try cases h;done)
 all_goals (obtain ⟨h1,h⟩:=grd_some h;exact ⟨_,h,fun R2 f2=>by rw[h1];rfl⟩)
theorem strOp_one {op:BinOp} {x y:Bs} {f:CV→Option R} (h:strOp op x y f=some q):∃c,f c=some q∧∀(R2:Type) (f2:CV→Option R2),strOp op x y f2=f2 c:=by
 cases op <;> simp only[strOp] at h ⊢ <;> (try cases h;done)
 case add=>obtain ⟨h1,h⟩:=grd_some h;exact ⟨_,h,fun R2 f2=>by rw[h1];rfl⟩
 all_goals exact ⟨_,h,fun R2 f2=>rfl⟩
theorem shCV_one {op:BinOp} {x y:CV} {f:CV→Option R} (h:shCV op x y f=some q):∃c,f c=some q∧∀(R2:Type) (f2:CV→Option R2),shCV op x y f2=f2 c:=by
 cases x <;> (try cases h;done)
 cases y <;> (try cases h;done)
 exact shOp_one h
theorem arCV_one {op:BinOp} {x y:CV} {f:CV→Option R} (h:arCV op x y f=some q):∃c,f c=some q∧∀(R2:Type) (f2:CV→Option R2),arCV op x y f2=f2 c:=by
 cases x <;> cases y <;> (try cases h;done)
 ·rename_i k1 n1 k2 n2
  have h':(bif decide (k1=k2) then intOp op k1 n1 n2 f else none)=some q:=h
  obtain ⟨e,hh⟩:=bif_some h'
  obtain ⟨c,c1,c2⟩:=intOp_one hh
  refine ⟨c,c1,fun R2 f2=>?_⟩
  show (bif decide (k1=k2) then intOp op k1 n1 n2 f2 else none)=_
  rw[e];exact c2 R2 f2
 ·rename_i b1 b2
  have h':boolOp op b1 b2 f=some q:=h
  cases op <;> simp only[boolOp] at h' <;> (try cases h';done)
  ·exact ⟨_,h',fun R2 f2=>rfl⟩
  ·exact ⟨_,h',fun R2 f2=>rfl⟩
 ·rename_i s1 s2
  exact strOp_one (op:=op) (x:=s1) (y:=s2) (f:=f) h
theorem binCV_one {op:BinOp} {x y:CV} {f:CV→Option R} (h:binCV op x y f=some q):∃c,f c=some q∧∀(R2:Type) (f2:CV→Option R2),binCV op x y f2=f2 c:=by
 cases op
 case shl=>exact shCV_one h
 case shr=>exact shCV_one h
 all_goals exact arCV_one h
theorem bin_res {op:BinOp} {t u:TypeId} {x y:Operand} (ho:o.op=.binOp op t x y u) (h:step Γ N cal r o k=some q):Res Γ N cal r o k q:=by
 simp only[step,ho,stepBin] at h
 split at h
 ·rename_i c d hc hd
  split at h
  ·rename_i n hn
   obtain ⟨hb,h⟩:=bif_some h
   unfold stepNil at h
   split at h
   ·obtain ⟨hl0,h⟩:=grd_some h
    exact res_put h fun R2 r2 k2 hl=>by simp only[step,ho,stepBin,hl.eval hc,hl.eval hd,hn,hb,cond_true,stepNil,hl0];rfl
   ·obtain ⟨hl0,h⟩:=grd_some h
    exact res_put h fun R2 r2 k2 hl=>by simp only[step,ho,stepBin,hl.eval hc,hl.eval hd,hn,hb,cond_true,stepNil,hl0];rfl
   ·cases h
  rename_i hn
  split at h
  ·rename_i b hm
   obtain ⟨hb,h⟩:=bif_some h
   unfold stepErr at h
   split at h
   ·exact res_put h fun R2 r2 k2 hl=>by simp only[step,ho,stepBin,hl.eval hc,hl.eval hd,hn,hm,hb,cond_true,stepErr]
   ·exact res_put h fun R2 r2 k2 hl=>by simp only[step,ho,stepBin,hl.eval hc,hl.eval hd,hn,hm,hb,cond_true,stepErr]
   ·cases h
  rename_i hm
  obtain ⟨hb,h⟩:=bif_some h
  obtain ⟨c',c1,c2⟩:=binCV_one h
  exact res_put c1 fun R2 r2 k2 hl=>by
   simp only[step,ho,stepBin,hl.eval hc,hl.eval hd,hn,hm,hb,cond_true]
   exact c2 R2 _
 ·rename_i cs ds hc hd
  have he:∀(R2:Type) (r2:Env) (k2:Env→Option R2),Le r r2→step Γ N cal r2 o k2=stepEq Γ N r2 o.dst op t cs ds k2:=fun R2 r2 k2 hl=>by
   simp only[step,ho,stepBin,hl.eval hc,hl.eval hd]
  simp only[stepEq] at h
  split at h
  ·rename_i τ hτ
   obtain ⟨hS,h⟩:=bif_some h
   split at h
   ·rename_i b hb
    split at h
    ·exact res_put h fun R2 r2 k2 hl=>(he R2 r2 k2 hl).trans (by simp only[stepEq,hτ,hS,hb,cond_true])
    ·exact res_put h fun R2 r2 k2 hl=>(he R2 r2 k2 hl).trans (by simp only[stepEq,hτ,hS,hb,cond_true])
    ·cases h
   ·cases h
  ·cases h
 ·cases h
theorem un_res {op:UnOp} {t:TypeId} {x:Operand} (ho:o.op=.unOp op t x) (h:step Γ N cal r o k=some q):Res Γ N cal r o k q:=by
 simp only[step,ho] at h
 split at h
 ·rename_i b hb;exact res_put h fun R2 r2 k2 hl=>by simp only[step,ho,hl.evc hb]
 ·rename_i p n hb;exact res_put h fun R2 r2 k2 hl=>by simp only[step,ho,hl.evc hb]
 ·cases h
theorem conv_res {src dst:TypeId} {x:Operand} (ho:o.op=.convert src dst x) (h:step Γ N cal r o k=some q):Res Γ N cal r o k q:=by
 simp only[step,ho,stepConv] at h
 split at h
 ·rename_i k1 p k2 n h1 h2 h3;exact res_put h fun R2 r2 k2 hl=>by simp only[step,ho,stepConv,h1,h2,hl.evc h3]
 ·rename_i l h1 h2 h3;exact res_put h fun R2 r2 k2 hl=>by simp only[step,ho,stepConv,h1,h2,hl.evc h3]
 ·rename_i l h1 h2 h3;exact res_new h fun R2 r2 k2 hl=>by simp only[step,ho,stepConv,h1,h2,hl.evc h3]
 ·rename_i c h1 h2 h3
  split at h
  ·rename_i xs hxs
   exact res_put h fun R2 r2 k2 hl=>by simp only[step,ho,stepConv,h1,h2,hl.evc h3,listOf_le hl.ob hxs]
  ·cases h
 ·cases h
theorem load_res {t:TypeId} {x:Operand} (ho:o.op=.load t x) (h:step Γ N cal r o k=some q):Res Γ N cal r o k q:=by
 simp only[step,ho] at h
 split at h
 ·rename_i τ p h1 h2
  split at h
  ·rename_i cs hcs
   split at h
   ·rename_i v hv
    exact res_put h fun R2 r2 k2 hl=>by simp only[step,ho,h1,hl.evc h2,hl.rd hcs,hv]
   ·cases h
  ·cases h
 ·cases h
theorem fieldAddr_res {t:TypeId} {x:Operand} {f:Nat} (ho:o.op=.fieldAddr t x f) (h:step Γ N cal r o k=some q):Res Γ N cal r o k q:=by
 simp only[step,ho] at h
 split at h
 ·rename_i τ c h1 h2
  split at h
  ·rename_i off σ hf
   obtain ⟨hb,h⟩:=bif_some h
   split at h
   ·exact res_put h fun R2 r2 k2 hl=>by simp only[step,ho,h1,hl.evc h2,hf,hb,cond_true]
   ·exact res_put h fun R2 r2 k2 hl=>by simp only[step,ho,h1,hl.evc h2,hf,hb,cond_true]
   ·exact res_put h fun R2 r2 k2 hl=>by simp only[step,ho,h1,hl.evc h2,hf,hb,cond_true]
   ·cases h
  ·cases h
 ·cases h
theorem idx_res {t:TypeId} {x i:Operand} (ho:o.op=.indexAddr t x i) (h:step Γ N cal r o k=some q):Res Γ N cal r o k q:=by
 simp only[step,ho,stepIdx] at h
 split at h
 ·rename_i c kd j h1 h2
  split at h
  ·obtain ⟨hb,h⟩:=bifn_some h
   obtain ⟨g1,h⟩:=grd_some h
   obtain ⟨g2,h⟩:=grd_some h
   exact res_put h fun R2 r2 k2 hl=>by simp only[step,ho,stepIdx,hl.evc h1,hl.evc h2,hb,cond_false,g1,g2,grd,cond_true]
  ·split at h
   ·rename_i e xs hn
    obtain ⟨hb,h⟩:=bifn_some h
    obtain ⟨g1,h⟩:=grd_some h
    obtain ⟨g2,h⟩:=grd_some h
    exact res_put h fun R2 r2 k2 hl=>by simp only[step,ho,stepIdx,hl.evc h1,hl.evc h2,hl.ob _ _ hn,hb,cond_false,g1,g2,grd,cond_true]
   ·cases h
  ·cases h
 ·cases h
theorem index_res {t:TypeId} {x i:Operand} (ho:o.op=.index t x i) (h:step Γ N cal r o k=some q):Res Γ N cal r o k q:=by
 simp only[step,ho] at h
 split at h
 ·rename_i l kd j h1 h2 h3
  obtain ⟨g1,h⟩:=grd_some h
  obtain ⟨g2,h⟩:=grd_some h
  exact res_put h fun R2 r2 k2 hl=>by simp only[step,ho,h1,hl.evc h2,hl.evc h3,g1,g2,grd,cond_true]
 ·cases h
theorem bound_one {lo hi:Option CV} {len:Nat} {f:Nat→Nat→Option R} (h:bound lo hi len f=some q):∃i j,f i j=some q∧∀(R2:Type) (f2:Nat→Nat→Option R2),bound lo hi len f2=f2 i j:=by
 unfold bound at h
 split at h
 ·split at h
  ·exact ⟨_,_,h,fun R2 f2=>rfl⟩
  ·obtain ⟨g1,h⟩:=grd_some h
   obtain ⟨g2,h⟩:=grd_some h
   exact ⟨_,_,h,fun R2 f2=>by simp only[bound,g1,g2,grd,cond_true]⟩
  ·cases h
 ·obtain ⟨g1,h⟩:=grd_some h
  obtain ⟨g2,h⟩:=grd_some h
  split at h
  ·exact ⟨_,_,h,fun R2 f2=>by simp only[bound,g1,g2,grd,cond_true]⟩
  ·obtain ⟨g3,h⟩:=grd_some h
   obtain ⟨g4,h⟩:=grd_some h
   exact ⟨_,_,h,fun R2 f2=>by simp only[bound,g1,g2,g3,g4,grd,cond_true]⟩
  ·cases h
 ·cases h
theorem nilCheck_res {x:Operand} (ho:o.op=.nilCheck x) (h:step Γ N cal r o k=some q):Res Γ N cal r o k q:=by
 simp only[step,ho] at h
 split at h
 ·rename_i n off h1
  exact res_put h fun R2 r2 k2 hl=>by simp only[step,ho,hl.evc h1]
 ·rename_i n e i off h1
  exact res_put h fun R2 r2 k2 hl=>by simp only[step,ho,hl.evc h1]
 ·rename_i e x off h1
  exact res_put h fun R2 r2 k2 hl=>by simp only[step,ho,hl.evc h1]
 ·cases h
theorem alloc_res {t:TypeId} (ho:o.op=.alloc t) (h:step Γ N cal r o k=some q):Res Γ N cal r o k q:=by
 simp only[step,ho] at h
 split at h
 ·rename_i τ h1
  exact res_new h fun R2 r2 k2 hl=>by simp only[step,ho,h1]
 ·cases h
theorem slice_res {t:TypeId} {x:Operand} {lo hi:Option Operand} (ho:o.op=.slice t x lo hi none) (hx:∀n,r.evc Γ x≠some (.sl n)) (h:step Γ N cal r o k=some q):Res Γ N cal r o k q:=by
 simp only[step,ho,stepSlice] at h
 split at h
 ·rename_i c lo' hi' h1 h2 h3
  cases c with
  | str l =>
   simp only at h
   split at h
   ·rename_i ht
    obtain ⟨i,j,hh,he⟩:=bound_one h
    exact res_put hh fun R2 r2 k2 hl=>by
     simp only[step,ho,stepSlice,hl.evc h1,hl.opt h2,hl.opt h3,ht]
     exact he R2 _
   ·cases h
  | imm e xs =>
   simp only at h
   obtain ⟨ht,h⟩:=bifn_some h
   obtain ⟨i,j,hh,he⟩:=bound_one h
   exact res_put hh fun R2 r2 k2 hl=>by
    simp only[step,ho,stepSlice,hl.evc h1,hl.opt h2,hl.opt h3,ht,cond_false]
    exact he R2 _
  | sl n=>exact absurd h1 (hx n)
  | _=>cases h
 ·cases h
theorem extract_res {x:Operand} {i:Nat} (ho:o.op=.extract x i) (h:step Γ N cal r o k=some q):Res Γ N cal r o k q:=by
 simp only[step,ho] at h
 split at h
 ·rename_i vs hv
  split at h
  ·rename_i v l hd
   exact res_put h fun R2 r2 k2 hl=>by simp only[step,ho,hl.eval hv,hd]
  ·cases h
 ·cases h
theorem len_res {c:Call} (ho:o.op=.call c) (hc:c.callee=.builtin .len) (h:step Γ N cal r o k=some q):Res Γ N cal r o k q:=by
 simp only[step,ho,stepCall,hc] at h
 split at h
 ·rename_i x t ha ht
  unfold stepLen at h
  split at h
  ·rename_i l hx
   split at h
   ·rename_i hs
    exact res_put h fun R2 r2 k2 hl=>by simp only[step,ho,stepCall,hc,ha,ht,stepLen,hl.evc hx,hs]
   ·cases h
  ·rename_i cv hno hx
   obtain ⟨hs,h⟩:=bif_some h
   unfold stepLenL at h
   split at h
   ·exact res_put h fun R2 r2 k2 hl=>by simp only[step,ho,stepCall,hc,ha,ht,stepLen,hl.evc hx,hs,stepLenL,cond_true]
   ·rename_i n
    split at h
    ·rename_i e xs hn
     exact res_put h fun R2 r2 k2 hl=>by simp only[step,ho,stepCall,hc,ha,ht,stepLen,hl.evc hx,hs,stepLenL,cond_true,hl.ob _ _ hn]
    ·cases h
   ·rename_i v
    obtain ⟨hv,h⟩:=bif_some h
    exact res_put h fun R2 r2 k2 hl=>by simp only[step,ho,stepCall,hc,ha,ht,stepLen,hl.evc hx,hs,stepLenL,cond_true,hv]
   ·cases h
  ·cases h
 ·cases h
theorem freezeAll_nil {k:Env→Option R}:r.freezeAll [] k=k r:=by unfold Env.freezeAll;rfl
theorem buildSlice_res {t len:Nat} {parts:Array (Nat×Operand)} (ho:o.op=.buildSlice t len parts) (hn:∀vs,evParts Γ r parts.toList=some vs→pnames vs=[]) (h:step Γ N cal r o k=some q):Res Γ N cal r o k q:=by
 simp only[step,ho] at h
 split at h
 ·rename_i e vs h1 h2
  obtain ⟨hb,h⟩:=bif_some h
  rw[hn vs h2,freezeAll_nil] at h
  simp only[h2] at h
  split at h
  ·rename_i xs hxs
   obtain ⟨hc,h⟩:=bif_some h
   exact res_new h fun R2 r2 k2 hl=>by simp only[step,ho,h1,hl.parts h2,hb,cond_true,hn vs h2,freezeAll_nil,hxs,hc]
  ·cases h
 ·cases h
theorem argVal_le {ob ob2:Nat→Option Ob} (h:∀n o,ob n=some o→ob2 n=some o) {t:Ty} {v:SV} {x:t.den} (hx:argVal ob t v=some x):argVal ob2 t v=some x:=by
 cases v with
 | t w=>exact denTV_le h hx
 | tup _=>exact hx
theorem argsIn_le {ob ob2 ob' ob2':Nat→Option Ob} (h:∀n o,ob' n=some o→ob2' n=some o):∀ {ps:List (Ty×Nat)} {vs:List SV} {x:(prodTy (ps.map pTy)).den},ioTys ps=[]→argsIn ob ob' ps vs=some x→argsIn ob2 ob2' ps vs=some x
 | [],[],x,_,hx=>hx
 | [],_ :: _,x,_,hx=>by cases hx
 | _ :: _,[],x,_,hx=>by cases hx
 | (t,0) :: ps,v :: vs,x,hio,hx=>by
  simp only[argsIn] at hx ⊢
  split at hx
  ·rename_i y hy
   split at hx
   ·rename_i ys hys
    have hy':argIn ob2 ob2' (t,0) v=some y:=argVal_le (t:=t) h hy
    rw[hy']
    simp only[argsIn_le h (show ioTys ps=[] from hio) hys]
    exact hx
   ·cases hx
  ·cases hx
 | (t,n+1) :: ps,v :: vs,x,hio,hx=>by cases hio
theorem back_nil:∀ {ps:List (Ty×Nat)} {vs:List SV} {x:(prodTy (ioTys ps)).den},ioTys ps=[]→r.back ps vs x k=some q→k r=some q∧∀(R2:Type) (r2:Env) (k2:Env→Option R2),r2.back ps vs x k2=k2 r2
 | [],[],x,_,h=>⟨h,fun _ _ _=>rfl⟩
 | [],_ :: _,x,_,h=>by cases h
 | (t,0) :: ps,[],x,_,h=>by cases h
 | (t,0) :: ps,v :: vs,x,hio,h=>back_nil (ps:=ps) (vs:=vs) (x:=x) hio h
 | (t,n+1) :: ps,_,x,hio,h=>by cases hio
theorem callW_res {c:Call} {g:Nat} {vs:List SV} {ob':Nat→Option Ob} (hio0:ioTys (Γ.ent g).sg.ps=[]) (h:r.callW Γ N cal o.dst g ob' vs k=some q)
  (he:∀(R2:Type) (r2:Env) (k2:Env→Option R2),Le r r2→∃ob2:Nat→Option Ob,(∀n x,ob' n=some x→ob2 n=some x)∧step Γ N cal r2 o k2=r2.callW Γ N cal o.dst g ob2 vs k2):Res Γ N cal r o k q:=by
 unfold Env.callW at h
 split at h
 ·cases h
 ·rename_i x hx
  obtain ⟨y,hy,h⟩:=Option.bind_eq_some_iff.1 h
  obtain ⟨hb,h⟩:=bif_some h
  obtain ⟨h,hbk⟩:=back_nil hio0 h
  obtain ⟨obs,g1,g2,g3⟩:=news_res h
  refine ⟨_,obs,g1,fun R2 r2 k2 hl hf=>?_⟩
  rw[←g3 R2 r2 k2 hl fun n hn=>hf n ((g2 n).2 hn)]
  obtain ⟨ob2,e1,e2⟩:=he R2 r2 k2 hl
  rw[e2]
  have hx2:argsIn r2.obj ob2 (Γ.ent g).sg.ps vs=some x:=argsIn_le e1 hio0 hx
  simp only[Env.callW,hx2,hy,Option.bind_some,hb,cond_true]
  exact hbk R2 r2 _
theorem call_res {c:Call} {g:Nat} (ho:o.op=.call c) (hc:c.callee=.value (.func g)) (hsh:(shares (Γ.ent g).sg.rs||ioShares (Γ.ent g).sg.ps)=true→∀vs,evArgs Γ r c.args.toList=some vs→valNames (Γ.ent g).sg.ps vs=[]) (hio0:ioTys (Γ.ent g).sg.ps=[]) (hho:look Γ.ho g=none)
  (h:step Γ N cal r o k=some q):Res Γ N cal r o k q:=by
 simp only[step,ho,stepCall,hc,hho,Env.call] at h
 obtain ⟨hok,h⟩:=bifn_some h
 split at h
 ·cases h
 ·rename_i vs hvs
  cases hs:(shares (Γ.ent g).sg.rs||ioShares (Γ.ent g).sg.ps) with
  | false =>
   rw[hs] at h
   simp only[cond_false] at h
   split at h
   ·rename_i io hio
    refine callW_res (c:=c) hio0 h fun R2 r2 k2 hl=>⟨without io r2.obj,fun n x hn=>?_,?_⟩
    ·unfold without at hn ⊢
     cases hm:mem n io with
     | true=>rw[hm] at hn;cases hn
     | false=>rw[hm] at hn;exact hl.ob n x hn
    ·simp only[step,ho,stepCall,hc,hho,Env.call,hok,hl.args hvs,hs,cond_false,hio]
   ·cases h
  | true =>
   rw[hs] at h
   simp only[cond_true,hsh hs vs hvs,freezeAll_nil,hvs] at h
   split at h
   ·rename_i io hio
    refine callW_res (c:=c) hio0 h fun R2 r2 k2 hl=>⟨fun _=>none,fun n x hn=>hn,?_⟩
    simp only[step,ho,stepCall,hc,hho,Env.call,hok,hl.args hvs,hs,cond_true,cond_false,hio,hsh hs vs hvs,freezeAll_nil]
   ·cases h
theorem build_res {t:TypeId} {parts:Array (Nat×Operand)} (ho:o.op=.build t parts) (h:step Γ N cal r o k=some q):Res Γ N cal r o k q:=by
 simp only[step,ho] at h
 split at h
 ·rename_i τ vs h1 h2
  split at h
  ·rename_i cs hcs
   obtain ⟨hS,h⟩:=bif_some h
   exact res_put h fun R2 r2 k2 hl=>by simp only[step,ho,h1,hl.parts h2,hcs,hS,cond_true]
  ·cases h
 ·cases h
theorem func_res {fn:Fn} {g:Nat} {first caps:Array Operand} {y:Operand} (ho:o.op=.makeFunc fn first caps) (h1:fn=.func g) (h2:first.toList=[y]) (h3:caps.toList=[]) (h:step Γ N cal r o k=some q):Res Γ N cal r o k q:=by
 subst h1
 simp only[step,ho,stepFunc,h2,h3,stepBound] at h
 split at h
 ·rename_i f ps cs hps hcs
  split at h
  ·rename_i v hv
   exact res_put h fun R2 r2 k2 hl=>by simp only[step,ho,stepFunc,h2,h3,stepBound,hps,hl.eval hcs,hv]
  ·cases h
 ·cases h
theorem Le.foV (h:Le r r2) {x:Operand} {c:CV} (hv:foV Γ r x=some c):foV Γ r2 x=some c:=by
 cases x with
 | func g=>exact hv
 | tmp t=>exact h.evc hv
 | const v=>exact h.evc hv
 | global g=>exact h.evc hv
theorem ho_res {c:Call} {g:Nat} {kd:Nat×Ty} (ho:o.op=.call c) (hc:c.callee=.value (.func g)) (hk:look Γ.ho g=some kd) (h2:Nat.ble 2 kd.1=false) (h:step Γ N cal r o k=some q):Res Γ N cal r o k q:=by
 simp only[step,ho,stepCall,hc,hk,stepHo,h2,cond_false] at h
 split at h
 ·rename_i l fo ha
  split at h
  ·rename_i c' h' f y τ x hl hf
   split at h
   ·rename_i xs hxs
    obtain ⟨hp,h⟩:=bif_some h
    obtain ⟨hlen,h⟩:=grd_some h
    obtain ⟨i,hi,h⟩:=Option.bind_eq_some_iff.1 h
    exact res_put h fun R2 r2 k2 hle=>by simp only[step,ho,stepCall,hc,hk,stepHo,h2,cond_false,ha,hle.evc hl,hle.foV hf,listOf_le hle.ob hxs,hp,cond_true,hlen,hi,Option.bind_some];rfl
   ·cases h
  ·rename_i c' h' f y x hl hf
   split at h
   ·rename_i xs hxs
    obtain ⟨hp,h⟩:=bif_some h
    obtain ⟨hlen,h⟩:=grd_some h
    obtain ⟨i,hi,h⟩:=Option.bind_eq_some_iff.1 h
    exact res_put h fun R2 r2 k2 hle=>by simp only[step,ho,stepCall,hc,hk,stepHo,h2,cond_false,ha,hle.evc hl,hle.foV hf,listOf_le hle.ob hxs,hp,cond_true,hlen,hi,Option.bind_some];rfl
   ·cases h
  ·cases h
 ·cases h
end Go.VM
namespace Go.VM
open Go.RowKit
variable {P:Program} {Γ:Ctx} {θ:Nat→Value} {N:Nat} {w0:World} {M0 S0:Nat→Prop} {ι0:Nat→Value} {r r2:Env} {ι:Nat→Value} {S:Nat→Prop} {a:Act} {w:World} {R:Type} {cal:Cal Γ} {k:Env→Option R} {q:R} {o:Oper}
theorem Le.refl (r:Env):Le r r:=⟨fun _ _ h=>h,fun _ _ h=>h,rfl,rfl⟩
theorem Le.trans {r1 r2 r3:Env} (h:Le r1 r2) (k:Le r2 r3):Le r1 r3:=⟨fun t v e=>k.tm t v (h.tm t v e),fun t v e=>k.ob t v (h.ob t v e),k.rt.trans h.rt,k.rn.trans h.rn⟩
theorem RepW.forget {r':Env} (W:RepW θ N w0 M0 S0 ι0 r ι S a w) (h:Le r' r):RepW θ N w0 M0 S0 ι0 r' ι S a w :=
 ⟨W.s0,W.sn,W.sb,fun t v e=>W.tms t v (h.tm t v e),fun n o e=>W.obs n o (h.ob n o e),fun n o b e=>W.own n o b (h.ob n o e),fun n m o o' b e e'=>W.inj n m o o' b (h.ob n o e) (h.ob m o' e'),W.keep,W.size,W.one,W.fx,W.dfs⟩
theorem addD_get (δ:Dl) (r:Env) (t:Nat):(addD δ r).get t=if δ.d=some t then some δ.v else r.get t:=by
 obtain ⟨d,v,ob⟩:=δ
 cases d with
 | none=>simp[addD,Env.get]
 | some s =>
  show look ((s,v) :: del s r.tm) t=_
  rw[look_cons,look_del]
  by_cases e:s=t
  ·subst e;simp
  ·rw[if_neg e,if_neg e,if_neg (by simpa using e)];rfl
theorem addD_obj (δ:Dl) (r:Env) (n:Nat):(addD δ r).obj n=(look δ.ob n).or (r.obj n):=look_append' _ _ _
theorem addD_mono (δ:Dl) (h:Le r r2):Le (addD δ r) (addD δ r2):=by
 refine ⟨fun t v e=>?_,fun n ob e=>?_,h.rt,h.rn⟩
 ·rw[addD_get] at e ⊢
  split at e
  ·rename_i hd;rw[if_pos hd];exact e
  ·rename_i hd;rw[if_neg hd];exact h.tm t v e
 ·rw[addD_obj] at e ⊢
  cases hq:look δ.ob n with
  | some x=>rw[hq] at e;exact e
  | none =>
   rw[hq] at e
   rw[Option.none_or] at e ⊢
   exact h.ob n ob e
def NFar (ds:List Nat) (n:Nat):Prop:=n / 64 ∉ ds
def NOwn (d:Option Nat) (n:Nat):Prop:=d=some (n / 64)
structure DlOk (ds:List Nat) (δ:Dl):Prop where
 v:∀n,n∈δ.v.names→NFar ds n∨NOwn δ.d n
 k:∀n,n∈keys δ.ob→NOwn δ.d n
 o:∀n ob,(n,ob)∈δ.ob→∀m,m∈ob.names→NFar ds m∨NOwn δ.d m
theorem farN_ok {ds:List Nat} {n:Nat} (h:farN ds n=true):NFar ds n:=by simpa [farN,NFar,mem_false] using h
theorem ownN_ok {d:Option Nat} {n:Nat} (h:ownN d n=true):NOwn d n:=by
 cases d with
 | none=>cases h
 | some t=>simp only[ownN] at h;exact congrArg some (Nat.eq_of_beq_eq_true h).symm
theorem okNs_ok {ds:List Nat} {d:Option Nat}:∀ {l:List Nat},okNs ds d l=true→∀n,n∈l→NFar ds n∨NOwn d n
 | [],_,n,h=>by cases h
 | m :: l,h,n,hn=>by
  simp only[okNs,Bool.and_eq_true,Bool.or_eq_true] at h
  rcases List.mem_cons.1 hn with rfl | hn
  ·exact h.1.imp farN_ok ownN_ok
  ·exact okNs_ok h.2 n hn
theorem farNs_ok {ds:List Nat}:∀ {l:List Nat},farNs ds l=true→∀n,n∈l→NFar ds n
 | [],_,n,h=>by cases h
 | m :: l,h,n,hn=>by
  simp only[farNs,Bool.and_eq_true] at h
  rcases List.mem_cons.1 hn with rfl | hn
  ·exact farN_ok h.1
  ·exact farNs_ok h.2 n hn
theorem ownK_ok {d:Option Nat}:∀ {l:List (Nat×Ob)},ownK d l=true→∀n,n∈keys l→NOwn d n
 | [],_,n,h=>by cases h
 | (m,x) :: l,h,n,hn=>by
  simp only[ownK,Bool.and_eq_true] at h
  simp only[keys,List.mem_cons] at hn
  rcases hn with rfl | hn
  ·exact ownN_ok h.1
  ·exact ownK_ok h.2 n hn
theorem okObs_ok {ds:List Nat} {d:Option Nat}:∀ {l:List (Nat×Ob)},okObs ds d l=true→∀n ob,(n,ob)∈l→∀m,m∈ob.names→NFar ds m∨NOwn d m
 | [],_,n,ob,h=>by cases h
 | (m,x) :: l,h,n,ob,hn=>by
  simp only[okObs,Bool.and_eq_true] at h
  rcases List.mem_cons.1 hn with e | hn
  ·cases e;exact okNs_ok h.1
  ·exact okObs_ok h.2 n ob hn
theorem okDl_ok {ds:List Nat} {δ:Dl} (h:okDl ds δ=true):DlOk ds δ:=by
 simp only[okDl,Bool.and_eq_true] at h
 exact ⟨okNs_ok h.1.1.1,ownK_ok h.1.1.2,okObs_ok h.1.2⟩
structure EFar (ds:List Nat) (D:Nat→Prop) (r:Env):Prop where
 tm:∀t v,(t,v)∈r.tm→(t ∉ ds∨D t)∧∀n,n∈v.names→NFar ds n∨D (n / 64)
 ob:∀n x,(n,x)∈r.ob→(NFar ds n∨D (n / 64))∧∀m,m∈x.names→NFar ds m∨D (m / 64)
theorem del_sub {α:Type} {n:Nat}:∀ {l:List (Nat×α)} {p:Nat×α},p∈del n l→p∈l
 | [],p,h=>h
 | (m,v) :: l,p,h=>by
  simp only[del] at h
  cases hb:Nat.beq m n with
  | true=>rw[hb] at h;exact List.mem_cons_of_mem _ (del_sub h)
  | false =>
   rw[hb] at h
   rcases List.mem_cons.1 h with rfl | h
   ·simp
   ·exact List.mem_cons_of_mem _ (del_sub h)
theorem EFar.add {ds:List Nat} {D D':Nat→Prop} {δ:Dl} (h:EFar ds D r) (hδ:DlOk ds δ) (hs:∀t,D t→D' t) (hd:∀t,δ.d=some t→D' t):EFar ds D' (addD δ r):=by
 have own:∀n,NFar ds n∨NOwn δ.d n→NFar ds n∨D' (n / 64):=fun n h=>h.imp id fun h=>hd _ h
 constructor
 ·intro t v hm
  have hr:(t,v)∈r.tm→(t ∉ ds∨D' t)∧∀n,n∈v.names→NFar ds n∨D' (n / 64):=fun hm =>
   ⟨(h.tm t v hm).1.imp id (hs _),fun n hn=>((h.tm t v hm).2 n hn).imp id (hs _)⟩
  obtain ⟨d,dv,dob⟩:=δ
  cases d with
  | none=>exact hr hm
  | some s =>
   rcases List.mem_cons.1 (show (t,v)∈(s,dv) :: del s r.tm from hm) with e | hm
   ·cases e;exact ⟨.inr (hd _ rfl),fun n hn=>own n (hδ.v n hn)⟩
   ·exact hr (del_sub hm)
 ·intro n x hm
  rcases List.mem_append.1 (show (n,x)∈δ.ob++r.ob from hm) with hm | hm
  ·exact ⟨.inr (hd _ (hδ.k n (by have:=keys_mem2 hm;exact this))),fun m hmm=>own m (hδ.o n x hm m hmm)⟩
  ·exact ⟨((h.ob n x hm).1).imp id (hs _),fun m hmm=>((h.ob n x hm).2 m hmm).imp id (hs _)⟩
theorem freshT_mk {n:Nat}:∀ {l:List (Nat×SV)},(∀t v,(t,v)∈l→n ∉ v.names)→freshT n l=true
 | [],_=>rfl
 | (t,v) :: l,h=>by
  simp only[freshT,Bool.and_eq_true,Bool.not_eq_true',mem_false]
  exact ⟨h t v (by simp),freshT_mk fun t v hm=>h t v (by simp[hm])⟩
theorem freshO_mk {n:Nat}:∀ {l:List (Nat×Ob)},(∀t v,(t,v)∈l→t≠n∧n ∉ v.names)→freshO n l=true
 | [],_=>rfl
 | (t,v) :: l,h=>by
  simp only[freshO,Bool.and_eq_true,Bool.not_eq_true',mem_false,nbeq,decide_eq_false_iff_not]
  exact ⟨⟨(h t v (by simp)).1,(h t v (by simp)).2⟩,freshO_mk fun t v hm=>h t v (by simp[hm])⟩
theorem EFar.fr {ds:List Nat} {D:Nat→Prop} {s n:Nat} (h:EFar ds D r) (hs:s∈ds) (hD:¬D s) (hn:n / 64=s):Fr r n:=by
 have no:∀m,(NFar ds m∨D (m / 64))→m≠n:=fun m hm e=>by
  subst e
  rw[hn] at hm
  rcases hm with hm | hm
  ·exact hm (hn ▸ hs)
  ·exact hD hm
 exact ⟨freshT_mk fun t v hm hx=>no n ((h.tm t v hm).2 n hx) rfl,freshO_mk fun m x hm=>⟨no m (h.ob m x hm).1,fun hx=>no n ((h.ob m x hm).2 n hx) rfl⟩⟩
theorem look_mem2 {α:Type} {n:Nat} {v:α}:∀ {l:List (Nat×α)},look l n=some v→(n,v)∈l
 | [],h=>by cases h
 | (m,x) :: l,h=>by
  rw[look_cons] at h
  split at h
  ·rename_i e;subst e;cases h;simp
  ·exact List.mem_cons_of_mem _ (look_mem2 h)
theorem EFar.get_none {ds:List Nat} {D:Nat→Prop} {s:Nat} (h:EFar ds D r) (hs:s∈ds) (hD:¬D s):r.get s=none:=by
 cases hq:r.get s with
 | none=>rfl
 | some v =>
  have:=(h.tm s v (look_mem2 hq)).1
  rcases this with h | h
  ·exact absurd hs h
  ·exact absurd h hD
theorem EFar.obj_none {ds:List Nat} {D:Nat→Prop} {s n:Nat} (h:EFar ds D r) (hs:s∈ds) (hD:¬D s) (hn:n / 64=s):r.obj n=none:=by
 cases hq:r.obj n with
 | none=>rfl
 | some v =>
  have:=(h.ob n v (look_mem2 hq)).1
  rcases this with h | h
  ·exact absurd hs (hn ▸ h)
  ·exact absurd (hn ▸ h) hD
theorem Le.add {ds:List Nat} {D:Nat→Prop} {δ:Dl} (h:Le r r2) (hF:EFar ds D r) (hδ:DlOk ds δ) (hd:∀t,δ.d=some t→t∈ds∧¬D t):Le r (addD δ r2):=by
 refine ⟨fun t v e=>?_,fun n ob e=>?_,h.rt,h.rn⟩
 ·rw[addD_get]
  split
  ·rename_i hq
   rw[hF.get_none (hd t hq).1 (hd t hq).2] at e
   cases e
  ·exact h.tm t v e
 ·rw[addD_obj]
  cases hq:look δ.ob n with
  | none=>rw[Option.none_or];exact h.ob n ob e
  | some x =>
   have hk:=hδ.k n (keys_mem2 (look_mem2 hq))
   rw[hF.obj_none (hd _ hk).1 (hd _ hk).2 rfl] at e
   cases e
theorem addD_comm {ds:List Nat} {δ ε:Dl} (hδ:DlOk ds δ) (hε:DlOk ds ε) (hne:∀t,δ.d=some t→ε.d≠some t):Le (addD δ (addD ε r)) (addD ε (addD δ r)):=by
 refine ⟨fun t v e=>?_,fun n ob e=>?_,rfl,rfl⟩
 ·rw[addD_get,addD_get] at e ⊢
  by_cases h1:δ.d=some t
  ·rw[if_pos h1] at e
   rw[if_neg (hne t h1),if_pos h1];exact e
  ·rw[if_neg h1] at e
   rw[if_neg h1];exact e
 ·rw[addD_obj,addD_obj] at e ⊢
  cases h1:look δ.ob n with
  | none=>rw[h1] at e;rw[Option.none_or] at e ⊢;exact e
  | some x =>
   rw[h1] at e
   rw[Option.some_or] at e ⊢
   cases h2:look ε.ob n with
   | none=>rw[Option.none_or];exact e
   | some y =>
    have k1:=hδ.k n (keys_mem2 (look_mem2 h1))
    have k2:=hε.k n (keys_mem2 (look_mem2 h2))
    exact absurd k2 (hne _ k1)
end Go.VM
namespace Go.VM
open Go.RowKit
variable {P:Program} {Γ:Ctx} {N:Nat} {r r2 b:Env} {R:Type} {cal:Cal Γ} {k:Env→Option R} {q:R} {o:Oper} {ds:List Nat}
def Good (ds:List Nat):List Dl→Prop
 | []=>True
 | δ :: l=>DlOk ds δ∧(∀t,δ.d=some t→t∈ds∧∀ε,ε∈l→ε.d≠some t)∧Good ds l
def SelD (l:List Dl) (M:List Bool) (t:Nat):Prop:=∃(i:Nat) (δ:Dl),l[i]? = some δ∧M[i]? = some true∧δ.d=some t
def MLe (M L:List Bool):Prop:=∀(i:Nat),M[i]? = some true→L[i]? = some true
theorem MLe.tail {m l:Bool} {M L:List Bool} (h:MLe (m :: M) (l :: L)):MLe M L:=fun i hi=>by
 have:=h (i+1) (by simpa using hi)
 simpa using this
theorem EFar.mono {D D':Nat→Prop} (h:EFar ds D r) (hs:∀t,D t→D' t):EFar ds D' r :=
 ⟨fun t v hm=>⟨(h.tm t v hm).1.imp id (hs _),fun n hn=>((h.tm t v hm).2 n hn).imp id (hs _)⟩,fun n x hm=>⟨(h.ob n x hm).1.imp id (hs _),fun m hmm=>((h.ob n x hm).2 m hmm).imp id (hs _)⟩⟩
theorem SelD.cons {l:List Dl} {M:List Bool} {δ:Dl} {m:Bool} {t:Nat} (h:SelD l M t):SelD (δ :: l) (m :: M) t:=by
 obtain ⟨i,ε,h1,h2,h3⟩:=h
 exact ⟨i+1,ε,by simpa using h1,by simpa using h2,h3⟩
theorem Good.inj:∀ {l:List Dl} {i j:Nat} {δ ε:Dl} {t:Nat},Good ds l→l[i]? = some δ→l[j]? = some ε→δ.d=some t→ε.d=some t→i=j
 | [],i,j,δ,ε,t,_,h,_,_,_=>by simp at h
 | x :: l,i,j,δ,ε,t,hg,h1,h2,h3,h4=>by
  obtain ⟨_,hx,hg⟩:=hg
  cases i with
  | zero =>
   cases h1
   cases j with
   | zero=>rfl
   | succ j=>exact absurd h4 ((hx t h3).2 ε (List.mem_of_getElem? (by simpa using h2)))
  | succ i =>
   cases j with
   | zero=>cases h2;exact absurd h3 ((hx t h4).2 δ (List.mem_of_getElem? (by simpa using h1)))
   | succ j =>
    have:=Good.inj (i:=i) (j:=j) hg (by simpa using h1) (by simpa using h2) h3 h4
    rw[this]
theorem Good.at:∀ {l:List Dl} {i:Nat} {δ:Dl},Good ds l→l[i]? = some δ→DlOk ds δ∧∀t,δ.d=some t→t∈ds
 | [],i,δ,_,h=>by simp at h
 | x :: l,i,δ,hg,h=>by
  cases i with
  | zero=>cases h;exact ⟨hg.1,fun t ht=>(hg.2.1 t ht).1⟩
  | succ i=>exact hg.2.2.at (by simpa using h)
theorem envOf_nil (b:Env) (l:List Dl):envOf b l []=b:=by cases l <;> rfl
theorem envOf_far:∀ {l:List Dl} {M:List Bool},Good ds l→EFar ds (fun _=>False) b→EFar ds (SelD l M) (envOf b l M)
 | [],M,_,hb=>by
  have:envOf b [] M=b:=by cases M <;> rfl
  rw[this];exact hb.mono fun t h=>h.elim
 | δ :: l,[],_,hb=>hb.mono fun t h=>h.elim
 | δ :: l,true :: M,hg,hb=>(envOf_far hg.2.2 hb).add hg.1 (fun t h=>h.cons) fun t ht=>⟨0,δ,rfl,rfl,ht⟩
 | δ :: l,false :: M,hg,hb=>(envOf_far hg.2.2 hb).mono fun t h=>h.cons
theorem Good.notSel {δ:Dl} {l:List Dl} {M:List Bool} (hg:Good ds (δ :: l)):∀t,δ.d=some t→t∈ds∧¬SelD l M t:=fun t ht =>
 ⟨(hg.2.1 t ht).1,fun ⟨_,ε,h1,_,h3⟩=>(hg.2.1 t ht).2 ε (List.mem_of_getElem? h1) h3⟩
theorem envOf_le:∀ {l:List Dl} {M L:List Bool},Good ds l→EFar ds (fun _=>False) b→MLe M L→Le (envOf b l M) (envOf b l L)
 | [],M,L,_,hb,h=>by
  have:∀M,envOf b [] M=b:=fun M=>by cases M <;> rfl
  rw[this,this];exact .refl b
 | δ :: l,[],[],_,_,_=>.refl b
 | δ :: l,[],true :: L,hg,hb,h=>by
  have:=envOf_le (M:=[]) (L:=L) hg.2.2 hb (fun i hi=>by simp at hi)
  rw[envOf_nil] at this
  exact this.add hb hg.1 fun t ht=>⟨(hg.2.1 t ht).1,fun h=>h⟩
 | δ :: l,[],false :: L,hg,hb,h=>by
  have:=envOf_le (M:=[]) (L:=L) hg.2.2 hb (fun i hi=>by simp at hi)
  rw[envOf_nil] at this
  exact this
 | δ :: l,true :: M,[],hg,hb,h=>by have:=h 0 rfl;simp at this
 | δ :: l,true :: M,false :: L,hg,hb,h=>by have:=h 0 rfl;simp at this
 | δ :: l,true :: M,true :: L,hg,hb,h=>addD_mono δ (envOf_le hg.2.2 hb h.tail)
 | δ :: l,false :: M,true :: L,hg,hb,h=>(envOf_le hg.2.2 hb h.tail).add (envOf_far hg.2.2 hb) hg.1 hg.notSel
 | δ :: l,false :: M,false :: L,hg,hb,h=>envOf_le (l:=l) hg.2.2 hb h.tail
 | δ :: l,false :: M,[],hg,hb,h=>by
  have:=envOf_le (l:=l) (M:=M) (L:=[]) hg.2.2 hb (fun i hi=>by have:=h (i+1) (by simpa using hi);simp at this)
  rw[envOf_nil] at this
  exact this
theorem envOf_set:∀ {l:List Dl} {L:List Bool} {i:Nat} {δ:Dl},Good ds l→l[i]? = some δ→L[i]? = some false→Le (envOf b l (L.set i true)) (addD δ (envOf b l L))
 | [],L,i,δ,_,h,_=>by simp at h
 | x :: l,[],i,δ,_,_,h=>by simp at h
 | x :: l,m :: L,0,δ,hg,h1,h2=>by
  cases h1;cases h2
  exact .refl _
 | x :: l,m :: L,i+1,δ,hg,h1,h2=>by
  have ih:=envOf_set (l:=l) (L:=L) (i:=i) hg.2.2 (by simpa using h1) (by simpa using h2)
  cases m with
  | false=>exact ih
  | true =>
   refine (addD_mono x ih).trans (addD_comm hg.1 (hg.2.2.at (by simpa using h1)).1 fun t ht=>?_)
   exact (hg.2.1 t ht).2 δ (List.mem_of_getElem? (by simpa using h1))
theorem envOf_freshN {l:List Dl} {L:List Bool} {i:Nat} {δ:Dl} (hg:Good ds l) (hb:EFar ds (fun _=>False) b) (h1:l[i]? = some δ) (h2:L[i]? = some false):∀n,NOwn δ.d n→Fr (envOf b l L) n:=fun n hd=>by
 obtain ⟨hδ,hds⟩:=hg.at h1
 refine (envOf_far (M:=L) hg hb).fr (hds _ hd) (fun ⟨j,ε,h3,h4,h5⟩=>?_) rfl
 have:=hg.inj h1 h3 hd h5
 subst this
 rw[h2] at h4;cases h4
theorem envOf_fresh {l:List Dl} {L:List Bool} {i:Nat} {δ:Dl} (hg:Good ds l) (hb:EFar ds (fun _=>False) b) (h1:l[i]? = some δ) (h2:L[i]? = some false):∀n,n∈keys δ.ob→Fr (envOf b l L) n:=fun n hn=>by
 obtain ⟨hδ,hds⟩:=hg.at h1
 have hd:=hδ.k n hn
 refine (envOf_far (M:=L) hg hb).fr (hds _ hd) (fun ⟨j,ε,h3,h4,h5⟩=>?_) rfl
 have:=hg.inj h1 h3 hd h5
 subst this
 rw[h2] at h4;cases h4
theorem envOf_get {t:Nat} (ht:t ∉ ds):∀ {l:List Dl} {M:List Bool},Good ds l→(envOf b l M).get t=b.get t
 | [],M,_=>by cases M <;> rfl
 | δ :: l,[],_=>rfl
 | δ :: l,true :: M,hg=>by
  show (addD δ (envOf b l M)).get t=_
  rw[addD_get,if_neg (fun h=>ht (hg.2.1 t h).1)]
  exact envOf_get ht hg.2.2
 | δ :: l,false :: M,hg=>envOf_get ht (l:=l) (M:=M) hg.2.2
theorem envOf_obj {n:Nat} (hn:NFar ds n):∀ {l:List Dl} {M:List Bool},Good ds l→(envOf b l M).obj n=b.obj n
 | [],M,_=>by cases M <;> rfl
 | δ :: l,[],_=>rfl
 | δ :: l,true :: M,hg=>by
  show (addD δ (envOf b l M)).obj n=_
  rw[addD_obj]
  cases hq:look δ.ob n with
  | some x=>exact absurd (hg.2.1 _ (hg.1.k n (keys_mem2 (look_mem2 hq)))).1 hn
  | none=>rw[Option.none_or];exact envOf_obj hn hg.2.2
 | δ :: l,false :: M,hg=>envOf_obj hn (l:=l) (M:=M) hg.2.2
theorem envOf_rt:∀ {l:List Dl} {M:List Bool},(envOf b l M).rt=b.rt∧(envOf b l M).rn=b.rn
 | [],M=>by cases M <;> exact ⟨rfl,rfl⟩
 | δ :: l,[]=>⟨rfl,rfl⟩
 | δ :: l,true :: M=>envOf_rt (l:=l) (M:=M)
 | δ :: l,false :: M=>envOf_rt (l:=l) (M:=M)
theorem envOf_prefix:∀ {l l':List Dl} {M:List Bool},M.length≤l.length→envOf b (l++l') M=envOf b l M
 | l,l',[],_=>by rw[envOf_nil,envOf_nil]
 | [],l',m :: M,h=>by simp at h
 | δ :: l,l',true :: M,h=>by
  show addD δ (envOf b (l++l') M)=addD δ (envOf b l M)
  rw[envOf_prefix (by simpa using h)]
 | δ :: l,l',false :: M,h=>envOf_prefix (l:=l) (l':=l') (M:=M) (by simpa using h)
theorem maskOf_len (o:Oper):∀(n j:Nat),(maskOf o j n).length=n
 | 0,_=>rfl
 | n+1,j=>by simp[maskOf,maskOf_len o n]
theorem maskOf_get (o:Oper):∀(n j i:Nat),(maskOf o j n)[i]? = some true→depOn o (j+i)=true∧i<n
 | 0,j,i,h=>by simp[maskOf] at h
 | n+1,j,i,h=>by
  cases i with
  | zero=>exact ⟨by simpa [maskOf] using h,by omega⟩
  | succ i =>
   obtain ⟨h1,h2⟩:=maskOf_get o n (j+1) i (by simpa [maskOf] using h)
   exact ⟨by rwa [show j+(i+1)=j+1+i by omega],by omega⟩
theorem depOn_ok {o:Oper} {j:Nat} (h:depOn o j=true):∃e,e∈o.after∧Region.binds .any e=true∧e.on=j:=by
 simp only[depOn,List.any_eq_true,Bool.and_eq_true] at h
 obtain ⟨e,h1,h2,h3⟩:=h
 exact ⟨e,by simpa using h1,h2,Nat.eq_of_beq_eq_true h3⟩
theorem bigDep_ok {o:Oper} {i:Nat} (h:bigDep o i=true) {e:Edge} (he:e∈o.after) (hb:Region.binds .any e=true):e.on<i:=by
 simp only[bigDep,List.all_eq_true,Bool.or_eq_true,Bool.not_eq_true'] at h
 rcases h e (by simpa using he) with h | h
 ·rw[hb] at h;cases h
 ·simpa using h
theorem delAll_get {t:Nat}:∀ {ds:List Nat} {l:List (Nat×SV)},look (delAll ds l) t=if t∈ds then none else look l t
 | [],l=>by simp[delAll]
 | s :: ds,l=>by
  simp only[delAll]
  rw[look_del,delAll_get]
  by_cases e:s=t
  ·subst e;simp
  ·rw[if_neg e]
   by_cases h:t∈ds
   ·rw[if_pos h,if_pos (by simp[h])]
   ·rw[if_neg h,if_neg (by simp only[List.mem_cons,not_or];exact ⟨fun h=>e h.symm,h⟩)]
theorem farT_ok:∀ {l:List (Nat×SV)},farT ds l=true→∀t v,(t,v)∈l→∀n,n∈v.names→NFar ds n
 | [],_,t,v,h=>by cases h
 | (s,u) :: l,h,t,v,hm=>by
  simp only[farT,Bool.and_eq_true] at h
  rcases List.mem_cons.1 hm with e | hm
  ·cases e;exact farNs_ok h.1
  ·exact farT_ok h.2 t v hm
theorem farO_ok:∀ {l:List (Nat×Ob)},farO ds l=true→∀n x,(n,x)∈l→NFar ds n∧∀m,m∈x.names→NFar ds m
 | [],_,n,x,h=>by cases h
 | (s,u) :: l,h,n,x,hm=>by
  simp only[farO,Bool.and_eq_true] at h
  rcases List.mem_cons.1 hm with e | hm
  ·cases e;exact ⟨farN_ok h.1.1,farNs_ok h.1.2⟩
  ·exact farO_ok h.2 n x hm
theorem delAll_mem:∀ {ds:List Nat} {l:List (Nat×SV)} {t:Nat} {v:SV},(t,v)∈delAll ds l→t ∉ ds
 | [],l,t,v,_=>by simp
 | s :: ds,l,t,v,h=>by
  have h1:=delAll_mem (del_sub h)
  have h2:s≠t:=fun e=>by
   subst e
   have:∀l:List (Nat×SV),(s,v) ∉ del s l:=fun l=>by
    induction l with
    | nil=>intro h;cases h
    | cons p l ih =>
     obtain ⟨m,u⟩:=p
     simp only[del]
     cases hb:Nat.beq m s with
     | true=>exact ih
     | false =>
      intro h
      rcases List.mem_cons.1 h with e | h
      ·cases e;rw[nbeq] at hb;simp at hb
      ·exact ih h
   exact this _ h
  simp only[List.mem_cons,not_or]
  exact ⟨fun e=>h2 e.symm,h1⟩
end Go.VM
namespace Go.VM
open Go.RowKit
variable {P:Program} {Γ:Ctx} {θ:Nat→Value} {N:Nat} {w0:World} {M0 S0:Nat→Prop} {ι0:Nat→Value} {r r2 b bb:Env} {ι:Nat→Value} {S:Nat→Prop} {a:Act} {w:World} {R:Type} {cal:Cal Γ} {k:Env→Option R} {q:R} {o:Oper} {ds:List Nat}
 {Q:Exit→Act→World→Prop} {K':Act→World→Prop} {n:Nat} {cs:List CV}
theorem CV.frz_id {e:Ty} {xs:List e.den} {c:CV} (h:n ∉ c.names):c.frz n e xs=c:=by
 cases c with
 | sl m =>
  simp only[CV.names,List.mem_singleton] at h
  simp only[CV.frz,nbeq,decide_eq_false (show ¬m=n from fun e=>h e.symm),cond_false]
 | _=>rfl
theorem cs_frz_id {e:Ty} {xs:List e.den}:∀ {cs:List CV},n ∉ cnames cs→cs.map (·.frz n e xs)=cs
 | [],_=>rfl
 | c :: cs,h=>by
  simp only[cnames,List.mem_append,not_or] at h
  rw[List.map_cons,CV.frz_id h.1,cs_frz_id h.2]
theorem TV.frz_id {e:Ty} {xs:List e.den} {v:TV} (h:n ∉ v.names):v.frz n e xs=v:=by
 cases v with
 | one c=>simp only[TV.frz,CV.frz_id (c:=c) (by simpa [TV.names,cellsOf,cnames] using h)]
 | agg cs=>simp only[TV.frz,cs_frz_id (cs:=cs) h]
theorem vs_frz_id {e:Ty} {xs:List e.den}:∀ {vs:List TV},n ∉ tnames vs→vs.map (·.frz n e xs)=vs
 | [],_=>rfl
 | c :: cs,h=>by
  simp only[tnames,List.mem_append,not_or] at h
  rw[List.map_cons,TV.frz_id h.1,vs_frz_id h.2]
theorem SV.frz_id {e:Ty} {xs:List e.den} {v:SV} (h:n ∉ v.names):v.frz n e xs=v:=by
 cases v with
 | t v=>simp only[SV.frz,TV.frz_id (v:=v) h]
 | tup vs=>simp only[SV.frz,vs_frz_id (vs:=vs) h]
theorem Ob.frz_id {e:Ty} {xs:List e.den} {o:Ob} (h:n ∉ o.names):o.frz n e xs=o:=by
 cases o with
 | row e' ys=>rfl
 | box cs=>simp only[Ob.frz,cs_frz_id (cs:=cs) h]
theorem clearT_mk {rt:List Nat}:∀ {l:List (Nat×SV)},(∀t v,(t,v)∈l→t ∉ rt∨n ∉ v.names)→clearT n rt l=true
 | [],_=>rfl
 | (t,v) :: l,h=>by
  simp only[clearT,Bool.and_eq_true,Bool.or_eq_true,Bool.not_eq_true',mem_false]
  exact ⟨h t v (by simp),clearT_mk fun t v hm=>h t v (by simp[hm])⟩
theorem clearO_mk {rn:List Nat}:∀ {l:List (Nat×Ob)},(∀t v,(t,v)∈l→t ∉ rn∨n ∉ v.names)→clearO n rn l=true
 | [],_=>rfl
 | (t,v) :: l,h=>by
  simp only[clearO,Bool.and_eq_true,Bool.or_eq_true,Bool.not_eq_true',mem_false]
  exact ⟨h t v (by simp),clearO_mk fun t v hm=>h t v (by simp[hm])⟩
theorem freshT_mem {n:Nat}:∀ {l:List (Nat×SV)},freshT n l=true→∀t v,(t,v)∈l→n ∉ v.names
 | [],_,t,v,h=>by cases h
 | (s,u) :: l,h,t,v,hm=>by
  simp only[freshT,Bool.and_eq_true,Bool.not_eq_true',mem_false] at h
  rcases List.mem_cons.1 hm with e | hm
  ·cases e;exact h.1
  ·exact freshT_mem h.2 t v hm
theorem freshO_mem {n:Nat}:∀ {l:List (Nat×Ob)},freshO n l=true→∀t v,(t,v)∈l→t≠n∧n ∉ v.names
 | [],_,t,v,h=>by cases h
 | (s,u) :: l,h,t,v,hm=>by
  simp only[freshO,Bool.and_eq_true,Bool.not_eq_true',mem_false,nbeq,decide_eq_false_iff_not] at h
  rcases List.mem_cons.1 hm with e | hm
  ·cases e;exact h.1
  ·exact freshO_mem h.2 t v hm
theorem frz_newV {u:SV} {d m:Nat} {e:Ty} {xs:List e.den} (hf:Fr r m) (hd:d ∉ r.rt) (hm:m ∉ r.rn) (W:RepW θ N w0 M0 S0 ι0 (addD ⟨some d,u,[(m,.row e xs)]⟩ r) ι S a w) :
  ∃S',RepW θ N w0 M0 S0 ι0 (addD ⟨some d,u.frz m e xs,[]⟩ r) ι S' a w:=by
 let r1:=addD ⟨some d,u,[(m,.row e xs)]⟩ r
 have hob:r1.obj m=some (.row e xs):=by
  show look ((m,Ob.row e xs) :: r.ob) m=_
  rw[look_cons,if_pos rfl]
 have hfz:r1.freeze m (fun r=>some r)=some { r1 with tm:=mapV (·.frz m e xs) r1.tm,ob:=mapV (·.frz m e xs) (del m r1.ob) }:=by
  unfold Env.freeze
  rw[hob]
  have h1:(!mem m r1.rn)=true:=by show (!mem m r.rn)=true;simpa [mem_false] using hm
  have h2:clearT m r1.rt r1.tm=true:=clearT_mk fun t v hmem=>by
   rcases List.mem_cons.1 (show (t,v)∈(d,u) :: del d r.tm from hmem) with e | hmem
   ·cases e;exact .inl hd
   ·exact .inr (freshT_mem hf.1 t v (del_sub hmem))
  have h3:clearO m r1.rn r1.ob=true:=clearO_mk fun t v hmem=>by
   rcases List.mem_cons.1 (show (t,v)∈(m,Ob.row e xs) :: r.ob from hmem) with e | hmem
   ·cases e;exact .inr (by simp[Ob.names])
   ·exact .inr (freshO_mem hf.2 t v hmem).2
  simp only[h1,h2,h3,Bool.and_self,cond_true]
 obtain ⟨r',S',e,_,W',_⟩:=freeze_ok hfz W
 cases e
 refine ⟨S',W'.forget ⟨fun t v hv=>?_,fun s x hx=>?_,rfl,rfl⟩⟩
 ·rw[addD_get] at hv
  show look (mapV _ r1.tm) t=some v
  rw[look_mapV]
  have hg:look r1.tm t=r1.get t:=rfl
  rw[hg,show r1=addD ⟨some d,u,[(m,.row e xs)]⟩ r from rfl,addD_get]
  split at hv
  ·rename_i hdt
   cases hv
   rw[if_pos hdt]
   rfl
  ·rename_i hdt
   rw[if_neg hdt,hv]
   have:=freshT_mem hf.1 t v (look_mem2 hv)
   simp only[Option.map_some,SV.frz_id this]
 ·have hx:r.obj s=some x:=by rw[addD_obj] at hx;simpa [look] using hx
  have hne:=freshO_mem hf.2 s x (look_mem2 hx)
  show look (mapV _ (del m r1.ob)) s=some x
  rw[look_mapV,look_del,if_neg (Ne.symm hne.1)]
  have:look r1.ob s=r.obj s:=by
   show look ((m,Ob.row e xs) :: r.ob) s=_
   rw[look_cons,if_neg (Ne.symm hne.1)];rfl
  rw[this,hx]
  simp only[Option.map_some,Ob.frz_id hne.2]
theorem frz_new {d m:Nat} {e:Ty} {xs:List e.den} (hf:Fr r m) (hd:d ∉ r.rt) (hm:m ∉ r.rn) (W:RepW θ N w0 M0 S0 ι0 (addD ⟨some d,.c (.sl m),[(m,.row e xs)]⟩ r) ι S a w) :
  ∃S',RepW θ N w0 M0 S0 ι0 (addD ⟨some d,.c (.imm e xs),[]⟩ r) ι S' a w:=by
 have:=frz_newV hf hd hm W
 have e1:(SV.c (.sl m)).frz m e xs=.c (.imm e xs):=by simp[SV.c,SV.frz,TV.frz,CV.frz,nbeq]
 rwa [e1] at this
end Go.VM
namespace Go.VM
open Go.RowKit
variable {P:Program} {Γ:Ctx} {N:Nat} {r r2 b:Env} {R:Type} {cal:Cal Γ} {k:Env→Option R} {q:R} {o:Oper} {ds:List Nat}
theorem noNames_nil:∀ {vs:List (Nat×SV)},noNames vs=true→pnames vs=[]
 | [],_=>rfl
 | (i,v) :: l,h=>by
  simp only[noNames,Bool.and_eq_true] at h
  obtain ⟨h1,h2⟩:=h
  simp only[pnames,noNames_nil h2,List.append_nil]
  cases hq:v.names with
  | nil=>rfl
  | cons n ns=>rw[hq] at h1;cases h1
theorem mild_res (hm:mild Γ o=true) (ha:mildAt Γ r o=true) (h:step Γ N cal r o k=some q):Res Γ N cal r o k q:=by
 cases ho:o.op with
 | move x=>exact move_res ho h
 | assign x=>exact assign_res ho h
 | pick c x y=>exact pick_res ho h
 | binOp op t x y u=>exact bin_res ho h
 | unOp op t x=>exact un_res ho h
 | convert s d x=>exact conv_res ho h
 | load t x=>exact load_res ho h
 | fieldAddr t x f=>exact fieldAddr_res ho h
 | indexAddr t x i=>exact idx_res ho h
 | index t x i=>exact index_res ho h
 | extract x i=>exact extract_res ho h
 | slice t x lo hi mx =>
  cases mx with
  | some _=>simp[mild,ho] at hm
  | none =>
   refine slice_res ho (fun n e=>?_) h
   simp only[mildAt,ho,e] at ha
   cases ha
 | nilCheck x=>exact nilCheck_res ho h
 | alloc t=>exact alloc_res ho h
 | buildSlice t len parts =>
  refine buildSlice_res ho (fun vs hv=>?_) h
  simp only[mildAt,ho,hv] at ha
  exact noNames_nil ha
 | call c =>
  simp only[mild,ho] at hm
  split at hm
  ·rename_i hc;exact len_res ho hc h
  ·rename_i g hc
   split at hm
   ·rename_i kd hk
    exact ho_res ho hc hk (by simpa using hm) h
   ·rename_i hk
    simp only[List.isEmpty_iff] at hm
    refine call_res ho hc (fun hs vs hv=>?_) hm hk h
    simp only[mildAt,ho,hc,hk,hs,cond_true,hv,List.isEmpty_iff] at ha
    exact ha
  ·cases hm
 | build t parts=>exact build_res ho h
 | makeFunc fn first caps =>
  simp only[mild,ho] at hm
  split at hm
  ·rename_i g y h2 h3
   exact func_res ho rfl h2 h3 h
  ·cases hm
 | _=>simp[mild,ho] at hm
def StepD (Γ:Ctx) (N:Nat) (cal:Cal Γ) (r:Env) (o:Oper) (δ:Dl):Prop :=
 ∀(R2:Type) (r2:Env) (k2:Env→Option R2),Le r r2→(∀n,n∈keys δ.ob→Fr r2 n)→step Γ N cal r2 o k2=k2 (addD δ r2)
def SkipD (N:Nat) (r:Env) (o:Oper) (δ:Dl):Prop :=
 ∀(R2:Type) (r2:Env) (k2:Env→Option R2),Le r r2→r2.put N o.dst undefV k2=k2 (addD δ r2)
inductive GSpec (Γ:Ctx) (N:Nat) (cal:Cal Γ) (ops:List Oper) (r:Env) (o:Oper) (δ:Dl):Prop
 | plain:o.guard=none→StepD Γ N cal r o δ→GSpec Γ N cal ops r o δ
 | on (j:Nat) (want:Bool) (t:Nat):o.guard=some (j,want)→slotOf ops j=some t→r.get t=some (.t (.one (.bool want)))→StepD Γ N cal r o δ→GSpec Γ N cal ops r o δ
 | off (j:Nat) (want:Bool) (t:Nat):o.guard=some (j,want)→slotOf ops j=some t→(r.get t=some (.t (.one (.bool (!want))))∨r.get t=some undefV)→SkipD N r o δ→GSpec Γ N cal ops r o δ
theorem step_dl {k:Dl→Option R} (hm:mild Γ o=true) (ha:mildAt Γ r o=true) (h:(step Γ N cal r o fun r'=>k (dlOf r o r'))=some q):∃δ,k δ=some q∧δ.d=o.dst∧StepD Γ N cal r o δ:=by
 obtain ⟨v,obs,h1,h2⟩:=mild_res hm ha h
 have e1:(dlOf r o (addD ⟨o.dst,v,obs⟩ r)).ob=obs:=by
  show (obs++r.ob).take ((obs++r.ob).length-r.ob.length)=obs
  rw[List.length_append,Nat.add_sub_cancel,List.take_left']
  rfl
 have e2:∀x:Env,addD (dlOf r o (addD ⟨o.dst,v,obs⟩ r)) x=addD ⟨o.dst,v,obs⟩ x:=fun x=>by
  cases hd:o.dst with
  | none=>rw[hd] at e1;simp only[addD,e1,dlOf,hd] at e1 ⊢;simp[e1]
  | some t =>
   have:(dlOf r o (addD ⟨some t,v,obs⟩ r))=⟨some t,v,obs⟩:=by
    rw[hd] at e1
    have hv:(dlOf r o (addD ⟨some t,v,obs⟩ r)).v=v:=by
     simp only[dlOf,hd,addD_get,if_pos]
     rfl
    have hdd:(dlOf r o (addD ⟨some t,v,obs⟩ r)).d=some t:=hd
    generalize dlOf r o (addD ⟨some t,v,obs⟩ r)=D at e1 hv hdd
    obtain ⟨d',v',ob'⟩:=D
    cases e1;cases hv;cases hdd
    rfl
   rw[this]
 exact ⟨_,h1,rfl,fun R2 r2 k2 hl hf=>by rw[e2];exact h2 R2 r2 k2 hl (fun n hn=>hf n (by rw[e1];exact hn))⟩
theorem skip_dl {k:Dl→Option R} (h:skipD N r o k=some q):∃δ,k δ=some q∧δ.d=o.dst∧SkipD N r o δ:=by
 obtain ⟨h1,h2⟩:=put_res (k:=fun _=>k ⟨o.dst,undefV,[]⟩) h
 exact ⟨_,h1,rfl,h2⟩
theorem gstep_spec {ops:List Oper} {k:Dl→Option R} (hm:mild Γ o=true) (ha:mildAt Γ r o=true) (h:gstep Γ N cal ops r o k=some q):∃δ,k δ=some q∧δ.d=o.dst∧GSpec Γ N cal ops r o δ:=by
 unfold gstep at h
 split at h
 ·rename_i hg
  obtain ⟨δ,h1,h2,h3⟩:=step_dl hm ha h
  exact ⟨δ,h1,h2,.plain hg h3⟩
 ·rename_i j want hg
  split at h
  ·cases h
  ·rename_i t ht
   split at h
   ·rename_i bb hb
    cases bb <;> cases want <;> simp only[cond_true,cond_false] at h
    ·obtain ⟨δ,h1,h2,h3⟩:=step_dl hm ha h;exact ⟨δ,h1,h2,.on j false t hg ht hb h3⟩
    ·obtain ⟨δ,h1,h2,h3⟩:=skip_dl h;exact ⟨δ,h1,h2,.off j true t hg ht (.inl hb) h3⟩
    ·obtain ⟨δ,h1,h2,h3⟩:=skip_dl h;exact ⟨δ,h1,h2,.off j false t hg ht (.inl hb) h3⟩
    ·obtain ⟨δ,h1,h2,h3⟩:=step_dl hm ha h;exact ⟨δ,h1,h2,.on j true t hg ht hb h3⟩
   ·rename_i hb
    obtain ⟨δ,h1,h2,h3⟩:=skip_dl h;exact ⟨δ,h1,h2,.off j want t hg ht (.inr hb) h3⟩
   ·cases h
inductive FSpec (Γ:Ctx) (N:Nat) (cal:Cal Γ) (ops:List Oper) (r:Env) (o:Oper) (δ:Dl):Prop
 | go:GSpec Γ N cal ops r o δ→FSpec Γ N cal ops r o δ
 | frz (d m:Nat) (e:Ty) (xs:List e.den) (v:SV):o.guard=none→NOwn (some d) m→d ∉ r.rt→m ∉ r.rn→StepD Γ N cal r o ⟨some d,v,[(m,.row e xs)]⟩→δ=⟨some d,v.frz m e xs,[]⟩→FSpec Γ N cal ops r o δ
theorem fz_guard (h:fzOp Γ o=true):o.guard=none:=by
 unfold fzOp at h
 split at h
 ·cases h
 ·assumption
theorem frzD_spec {ops:List Oper} {r:Env} {δ ε:Dl} (hz:fzOp Γ o=true) (hd:δ.d=o.dst) (hk:∀n,n∈keys δ.ob→NOwn δ.d n) (hs:GSpec Γ N cal ops r o δ) (hrt:r.rt=b.rt) (hrn:r.rn=b.rn) (h:frzD b δ=some ε):ε.d=o.dst∧FSpec Γ N cal ops r o ε:=by
 have hg:=fz_guard hz
 have hst:StepD Γ N cal r o δ:=by
  cases hs with
  | plain _ h=>exact h
  | on j want t hg'=>rw[hg] at hg';cases hg'
  | off j want t hg'=>rw[hg] at hg';cases hg'
 obtain ⟨dd,v,ob⟩:=δ
 unfold frzD at h
 split at h
 ·rename_i d m e xs h1 h2
  simp only at h1 h2
  subst h1 h2
  obtain ⟨hb,h⟩:=bif_some h
  cases h
  simp only[Bool.and_eq_true,Bool.not_eq_true',mem_false] at hb
  exact ⟨hd,.frz d m e xs v hg (hk m (by simp[keys])) (by rw[hrt];exact hb.1) (by rw[hrn];exact hb.2) hst rfl⟩
 ·cases h
structure FreeOp (Γ:Ctx) (N:Nat) (cal:Cal Γ) (ops:List Oper) (ds:List Nat) (b:Env) (δs:List Dl) (i:Nat) (o:Oper) (δ:Dl):Prop where
 d:δ.d=o.dst
 ok:DlOk ds δ
 big:bigDep o i=true
 spec:FSpec Γ N cal ops (envOf b δs (maskOf o 0 i)) o δ
theorem drawGo_spec {ops:List Oper}:∀ {os:List Oper} {acc:List Dl} {k:List Dl→Option R},drawGo Γ N cal ops ds b os acc k=some q →
  ∃δs,k (acc++δs)=some q∧δs.length=os.length∧∀(i:Nat) (o:Oper),os[i]? = some o→∃δ,δs[i]? = some δ∧FreeOp Γ N cal ops ds b (acc++δs) (acc.length+i) o δ
 | [],acc,k,h=>⟨[],by simpa [drawGo] using h,rfl,fun i o h=>by simp at h⟩
 | o :: os,acc,k,h=>by
  simp only[drawGo,litG_eq] at h
  obtain ⟨hc,h⟩:=bif_some h
  simp only[Bool.and_eq_true] at hc
  obtain ⟨⟨hm,hbig⟩,ha⟩:=hc
  obtain ⟨δ,h,hd,hs⟩:=gstep_spec hm ha h
  obtain ⟨hok,h⟩:=bif_some h
  have key:∃δ,drawGo Γ N cal ops ds b os (acc++[δ]) k=some q∧δ.d=o.dst∧okDl ds δ=true∧FSpec Γ N cal ops (envOf b acc (maskOf o 0 acc.length)) o δ:=by
   cases hz:fzOp Γ o with
   | false=>rw[hz] at h;exact ⟨δ,h,hd,hok,.go hs⟩
   | true =>
    rw[hz] at h
    simp only[cond_true] at h
    split at h
    ·rename_i ε hε
     obtain ⟨hok2,h⟩:=bif_some h
     obtain ⟨e1,e2⟩:=frzD_spec hz hd (okDl_ok hok).k hs envOf_rt.1 envOf_rt.2 hε
     exact ⟨ε,h,e1,hok2,e2⟩
    ·cases h
  clear h hd hs hok
  obtain ⟨δ,h,hd,hok,hs⟩:=key
  obtain ⟨δs,g1,g2,g3⟩:=drawGo_spec h
  refine ⟨δ :: δs,by simpa using g1,by simp[g2],fun i o' ho'=>?_⟩
  cases i with
  | zero =>
   cases ho'
   refine ⟨δ,rfl,hd,okDl_ok hok,hbig,?_⟩
   rw[Nat.add_zero,envOf_prefix (by rw[maskOf_len];exact Nat.le_refl _)]
   exact hs
  | succ i =>
   obtain ⟨ε,e1,e2⟩:=g3 i o' (by simpa using ho')
   refine ⟨ε,by simpa using e1,?_⟩
   have:acc++[δ]++δs=acc++δ :: δs:=by simp
   rw[this,List.length_append] at e2
   rwa [show acc.length+(i+1)=acc.length + [δ].length+i by simp;omega]
theorem mem_dstL:∀ {l:List Oper} {o:Oper} {t:Nat},o∈l→o.dst=some t→t∈dstL l
 | [],_,_,h,_=>by cases h
 | p :: l,o,t,h,hd=>by
  rcases List.mem_cons.1 h with rfl | h
  ·simp[dstL,hd]
  ·have:=mem_dstL h hd
   simp only[dstL]
   split
   ·exact List.mem_cons_of_mem _ this
   ·exact this
theorem good_of:∀ {os:List Oper} {δs:List Dl},δs.length=os.length→nodupN (dstL os)=true→(∀t,t∈dstL os→t∈ds)→(∀(i:Nat) (o:Oper),os[i]? = some o→∃δ,δs[i]? = some δ∧δ.d=o.dst∧DlOk ds δ)→Good ds δs
 | [],[],_,_,_,_=>trivial
 | [],_ :: _,h,_,_,_=>by simp at h
 | _ :: _,[],h,_,_,_=>by simp at h
 | o :: os,δ :: δs,hl,hn,hs,h=>by
  obtain ⟨δ',h1,h2,h3⟩:=h 0 o rfl
  cases h1
  have hn':nodupN (dstL os)=true∧∀t,o.dst=some t→t ∉ dstL os:=by
   simp only[dstL] at hn
   split at hn
   ·rename_i t ht
    simp only[nodupN,Bool.and_eq_true,Bool.not_eq_true',mem_false] at hn
    exact ⟨hn.2,fun s e=>by rw[ht] at e;cases e;exact hn.1⟩
   ·rename_i ht;exact ⟨hn,fun s e=>by rw[ht] at e;cases e⟩
  have hsub:∀t,t∈dstL os→t∈ds:=fun t ht=>hs t (by
   simp only[dstL]
   split
   ·exact List.mem_cons_of_mem _ ht
   ·exact ht)
  refine ⟨h3,fun t ht=>⟨hs t (mem_dstL (by simp) (h2 ▸ ht)),fun ε hε he=>?_⟩,good_of (by simpa using hl) hn'.1 hsub fun i o' ho'=>?_⟩
  ·obtain ⟨i,hi,rfl⟩:=List.mem_iff_getElem.1 hε
   have hlt:i<os.length:=by simp at hl;omega
   obtain ⟨δ2,k1,k2,_⟩:=h (i+1) (os[i]) (by simp)
   have:δ2=δs[i]:=by
    have:(δ :: δs)[i+1]? = some δs[i]:=by simp
    rw[this] at k1;exact (Option.some.inj k1).symm
   subst this
   exact hn'.2 t (h2 ▸ ht) (mem_dstL (List.getElem_mem hlt) (k2 ▸ he))
  ·obtain ⟨δ2,k1,k2,k3⟩:=h (i+1) o' (by simpa using ho')
   exact ⟨δ2,by simpa using k1,k2,k3⟩
end Go.VM
namespace Go.VM
open Go.RowKit
variable {P:Program} {Γ:Ctx} {θ:Nat→Value} {N:Nat} {w0:World} {M0 S0:Nat→Prop} {ι0:Nat→Value} {r r2 b:Env} {ι:Nat→Value} {S:Nat→Prop} {a:Act} {w:World} {R:Type} {cal:Cal Γ} {k:Env→Option R} {q:R} {o:Oper} {ds:List Nat}
 {Q:Exit→Act→World→Prop} {K':Act→World→Prop}
theorem gop_ok (B:Base P Γ θ w0 M0 S0) (hC:∀g,FnOk P Γ g (Γ.ent g).sg (cal g)) (ops:Array Oper) {l:List Oper} (h:execOps Γ N cal ops.toList (o :: l) r k=some q) (W:RepW θ N w0 M0 S0 ι0 r ι S a w)
  (hK:Out θ N w0 M0 S0 ι0 (fun r=>execOps Γ N cal ops.toList l r k) q r K'):if Region.wanted o (yielded ops a.tmps) then o.wp P a w K' Q∨(o.asks P a w∧LetsOut Q) else K' (a.put o.dst undef) w:=by
 have rest:∀ {r1:Env},Prot r r1→Out θ N w0 M0 S0 ι0 (fun r=>execOps Γ N cal ops.toList l r k) q r1 K':=fun p r' ι' S' a' w' h' W' p'=>hK r' ι' S' a' w' h' W' (p.trans p')
 have skip:∀ {r1:Env},Prot r r1→RepW θ N w0 M0 S0 ι0 r1 ι S a w→(r1.put N o.dst undefV fun r=>execOps Γ N cal ops.toList l r k)=some q→K' (a.put o.dst undef) w:=fun p W1 h1=>by
  obtain ⟨r',g1,W',p',_⟩:=put_ok (V:=undef) h1 W1 ⟨[],rfl,.nil⟩
  exact hK r' ι S _ w g1 W' (p.trans p')
 unfold execOps at h
 split at h
 ·rename_i hg
  have hw:Region.wanted o (yielded ops a.tmps)=true:=by simp[Region.wanted,hg]
  rw[if_pos hw]
  exact .inl (step_ok B hC W h (rest (.refl r)))
 ·rename_i j want hg
  split at h
  ·cases h
  ·rename_i t ht
   have ht:=slotOf_ok ht
   split at h
   ·rename_i b hb
    have hy:yielded ops a.tmps j=some b:=by
     simp only[yielded,ht,Option.bind_some,tmps_get W hb]
    obtain ⟨W1,p1⟩:=lit_ok W hb
    have hwd:Region.wanted o (yielded ops a.tmps)=(b==want):=by
     simp only[Region.wanted,hg,hy]
     cases b <;> cases want <;> rfl
    cases b <;> cases want <;> simp only[cond_true,cond_false] at h
    ·rw[if_pos (by rw[hwd];rfl)];exact .inl (step_ok B hC W1 h (rest p1))
    ·rw[if_neg (by rw[hwd];decide)];exact skip p1 W1 h
    ·rw[if_neg (by rw[hwd];decide)];exact skip p1 W1 h
    ·rw[if_pos (by rw[hwd];rfl)];exact .inl (step_ok B hC W1 h (rest p1))
   ·rename_i hb
    have hv:a.tmps.getD t undef=undef:=by
     obtain ⟨us,e1,e2⟩:=W.tms t _ hb
     cases e2
     exact e1
    have hy:yielded ops a.tmps j=none:=by
     simp only[yielded,ht,Option.bind_some]
     rw[Array.getD_eq_getD_getElem?] at hv
     cases hq:a.tmps[t]? with
     | none=>rfl
     | some v=>rw[hq] at hv;rw[show v=undef from hv];rfl
    rw[if_neg (by simp[Region.wanted,hg,hy])]
    exact skip (.refl r) W h
   ·cases h
theorem free_ok (B:Base P Γ θ w0 M0 S0) (hC:∀g,FnOk P Γ g (Γ.ent g).sg (cal g)) (ops:Array Oper) {δ:Dl} (hd:δ.d=o.dst) (hs:GSpec Γ N cal ops.toList r o δ) (hl:Le r r2) (hf:∀n,n∈keys δ.ob→Fr r2 n) (W:RepW θ N w0 M0 S0 ι0 r2 ι S a w)
  (hK:∀ι' S' a' w',RepW θ N w0 M0 S0 ι0 (addD δ r2) ι' S' a' w'→K' a' w'):if Region.wanted o (yielded ops a.tmps) then o.wp P a w K' Q∨(o.asks P a w∧LetsOut Q) else K' (a.put o.dst undef) w:=by
 have go:StepD Γ N cal r o δ→o.wp P a w K' Q:=fun hst =>
  step_ok (k:=fun r=>some r) (q:=addD δ r2) B hC W (hst Env r2 _ hl hf) fun r' ι' S' a' w' h' W' _=>by
   cases h'
   exact hK ι' S' a' w' W'
 have skip:SkipD N r o δ→K' (a.put o.dst undef) w:=fun hsk=>by
  obtain ⟨r',g1,W',_⟩:=put_ok (k:=fun r=>some r) (q:=addD δ r2) (V:=undef) (hsk Env r2 _ hl) W ⟨[],rfl,.nil⟩
  cases g1
  exact hK _ _ _ _ W'
 cases hs with
 | plain hg hst =>
  rw[if_pos (by simp[Region.wanted,hg])]
  exact .inl (go hst)
 | on j want t hg ht hb hst =>
  have ht:=slotOf_ok ht
  have hy:yielded ops a.tmps j=some want:=by
   simp only[yielded,ht,Option.bind_some,tmps_get W (hl.tm t _ hb)]
  rw[if_pos (by simp[Region.wanted,hg,hy])]
  exact .inl (go hst)
 | off j want t hg ht hb hsk =>
  have ht:=slotOf_ok ht
  rcases hb with hb | hb
  ·have hy:yielded ops a.tmps j=some (!want):=by
    simp only[yielded,ht,Option.bind_some,tmps_get W (hl.tm t _ hb)]
   rw[if_neg (by cases want <;> simp[Region.wanted,hg,hy])]
   exact skip hsk
  ·have hv:a.tmps.getD t undef=undef:=by
    obtain ⟨us,e1,e2⟩:=W.tms t _ (hl.tm t _ hb)
    cases e2
    exact e1
   have hy:yielded ops a.tmps j=none:=by
    simp only[yielded,ht,Option.bind_some]
    rw[Array.getD_eq_getD_getElem?] at hv
    cases hq:a.tmps[t]? with
    | none=>rfl
    | some v=>rw[hq] at hv;rw[show v=undef from hv];rfl
   rw[if_neg (by simp[Region.wanted,hg,hy])]
   exact skip hsk
theorem getD_mk (X:List Bool) (j:Nat) (d:Bool):(⟨X⟩:Array Bool).getD j d=(X[j]?).getD d:=by
 rw[Array.getD_eq_getD_getElem?];simp
def cntF:List Bool→Nat
 | []=>0
 | true :: l=>cntF l
 | false :: l=>cntF l+1
theorem cntF_set:∀ {X:List Bool} {i:Nat},X[i]? = some false→cntF X=cntF (X.set i true)+1
 | [],i,h=>by simp at h
 | b :: X,0,h=>by cases h;rfl
 | true :: X,i+1,h=>by
  show cntF X=cntF (X.set i true)+1
  exact cntF_set (by simpa using h)
 | false :: X,i+1,h=>by
  show cntF X+1=cntF (X.set i true)+1+1
  rw[cntF_set (X:=X) (i:=i) (by simpa using h)]
theorem cntF_zero:∀ {X:List Bool},cntF X=0→∀i,i<X.length→X[i]? = some true
 | [],_,i,h=>by simp at h
 | true :: X,h,0,_=>rfl
 | true :: X,h,i+1,hi=>by simpa using cntF_zero (X:=X) h i (by simpa using hi)
 | false :: X,h,i,hi=>by simp[cntF] at h
theorem cntF_drop:∀ {X:List Bool} {j:Nat},(∀i,i<j→X[i]? = some true)→(∀i,j≤i→X[i]?≠some true)→cntF X=X.length-j
 | [],j,_,_=>by simp[cntF]
 | true :: X,0,h1,h2=>absurd rfl (h2 0 (Nat.le_refl _))
 | true :: X,j+1,h1,h2=>by
  show cntF X=(X.length+1)-(j+1)
  rw[cntF_drop (X:=X) (j:=j) (fun i hi=>by simpa using h1 (i+1) bo%) (fun i hi=>by simpa using h2 (i+1) bo%)]
  omega
 | false :: X,0,h1,h2=>by
  show cntF X+1=X.length+1-0
  rw[cntF_drop (X:=X) (j:=0) (fun i hi=>by omega) (fun i _=>by simpa using h2 (i+1) bo%)]
  omega
 | false :: X,j+1,h1,h2=>by have:=h1 0 bo%;simp at this
def Closed (ops:List Oper) (X:List Bool):Prop:=∀(j:Nat) (o:Oper),ops[j]? = some o→X[j]? = some true→∀i,depOn o i=true→X[i]? = some true
theorem orM_sub {X:List Bool}:∀ {l m:List Bool} {j:Nat},(∀i,l[i]? = some true→X[j+i]? = some true)→(∀i,m[i]? = some true→X[j+i]? = some true)→∀i,(orM l m)[i]? = some true→X[j+i]? = some true
 | [],m,j,hl,hm,i,h=>by simp[orM] at h
 | x :: l,[],j,hl,hm,i,h=>hl i (by simpa [orM] using h)
 | x :: l,y :: m,j,hl,hm,i,h=>by
  cases i with
  | zero =>
   have:(x||y)=true:=by simpa [orM] using h
   rcases Bool.or_eq_true_iff.1 this with e | e
   ·exact hl 0 (by simp[e])
   ·exact hm 0 (by simp[e])
  | succ i =>
   have:=orM_sub (l:=l) (m:=m) (j:=j+1) (fun i hi=>by have:=hl (i+1) (by simpa using hi);rwa [show j+(i+1)=j+1+i by omega] at this) (fun i hi=>by have:=hm (i+1) (by simpa using hi);rwa [show j+(i+1)=j+1+i by omega] at this) i (by simpa [orM] using h)
   rwa [show j+(i+1)=j+1+i by omega]
theorem stepM_sub {X:List Bool}:∀ {dm:List (List Bool)} {m acc:List Bool},(∀(i:Nat) (d:List Bool),dm[i]? = some d→m[i]? = some true→∀(j:Nat),d[j]? = some true→X[j]? = some true)→(∀(j:Nat),acc[j]? = some true→X[j]? = some true)→∀(j:Nat),(stepM dm m acc)[j]? = some true→X[j]? = some true
 | [],m,acc,_,ha,j,h=>ha j (by cases m <;> exact h)
 | d :: dm,[],acc,_,ha,j,h=>ha j h
 | d :: dm,true :: m,acc,hd,ha,j,h=>by
  refine stepM_sub (dm:=dm) (m:=m) (acc:=orM acc d) (fun i d' h1 h2=>hd (i+1) d' (by simpa using h1) (by simpa using h2)) (fun i hi=>?_) j h
  have:=orM_sub (X:=X) (l:=acc) (m:=d) (j:=0) (fun i hi=>by rw[Nat.zero_add];exact ha i hi) (fun i hi=>by rw[Nat.zero_add];exact hd 0 d rfl rfl i hi) i hi
  rwa [Nat.zero_add] at this
 | d :: dm,false :: m,acc,hd,ha,j,h=>stepM_sub (dm:=dm) (m:=m) (acc:=acc) (fun i d' h1 h2=>hd (i+1) d' (by simpa using h1) (by simpa using h2)) ha j h
theorem iterM_sub {X:List Bool} {dm:List (List Bool)} (hd:∀(i:Nat) (d:List Bool),dm[i]? = some d→X[i]? = some true→∀(j:Nat),d[j]? = some true→X[j]? = some true):∀ {n:Nat} {m:List Bool},(∀(j:Nat),m[j]? = some true→X[j]? = some true)→∀(j:Nat),(iterM dm n m)[j]? = some true→X[j]? = some true
 | 0,m,hm,j,h=>hm j h
 | n+1,m,hm,j,h=>iterM_sub hd (n:=n) (m:=stepM dm m m) (stepM_sub (fun i d h1 h2=>hd i d h1 (hm i h2)) hm) j h
theorem depL_ok {o:Oper} {j:Nat} (h:j∈depL o):depOn o j=true:=by
 unfold depL at h
 obtain ⟨e,he,rfl⟩:=List.mem_map.1 h
 obtain ⟨h1,h2⟩:=List.mem_filter.1 he
 unfold depOn
 rw[List.any_eq_true]
 exact ⟨e,h1,by rw[h2,nbeq];simp⟩
def Bits (X:List Bool) (c:Nat):Prop:=∀s,c.testBit s=true→X[s]? = some true
theorem lorAll_sub {X:List Bool} {cl:List Nat} (hcl:∀(i c:Nat),cl[i]? = some c→X[i]? = some true→Bits X c):∀ {ds:List Nat} {acc:Nat},(∀j,j∈ds→X[j]? = some true)→Bits X acc→Bits X (lorAll cl ds acc)
 | [],acc,_,ha=>ha
 | j :: ds,acc,hd,ha=>by
  refine lorAll_sub hcl (ds:=ds) (fun i hi=>hd i (List.mem_cons_of_mem _ hi)) fun s hs=>?_
  have hj:=hd j (List.mem_cons_self ..)
  have hs:(acc ||| (2 ^ j ||| cl.getD j 0)).testBit s=true:=hs
  rw[Nat.testBit_or,Nat.testBit_or,Bool.or_eq_true,Bool.or_eq_true] at hs
  rcases hs with hs | hs | hs
  ·exact ha s hs
  ·rw[Nat.testBit_two_pow] at hs
   have:=of_decide_eq_true hs
   subst this
   exact hj
  ·rw[List.getD_eq_getElem?_getD] at hs
   cases hc:cl[j]? with
   | none=>rw[hc] at hs;simp at hs
   | some c=>rw[hc] at hs;exact hcl j c hc hj s hs
theorem closN_sub {ops:List Oper} {X:List Bool} (hX:Closed ops X):∀ {l:List Oper} {acc:List Nat},ops.drop acc.length=l→(∀(i c:Nat),acc[i]? = some c→X[i]? = some true→Bits X c)→∀(i c:Nat),(closN l acc)[i]? = some c→X[i]? = some true→Bits X c
 | [],acc,_,ha=>ha
 | o :: l,acc,hd,ha=>by
  have ho:ops[acc.length]? = some o:=by rw[←List.head?_drop,hd];rfl
  refine closN_sub hX (l:=l) (acc:=acc++[lorAll acc (depL o) 0]) (by rw[List.length_append,List.length_singleton,←List.drop_drop,hd];rfl) fun i c hi hx=>?_
  rw[List.getElem?_append] at hi
  split at hi
  ·exact ha i c hi hx
  ·rename_i hlt
   by_cases e:i=acc.length
   ·subst e
    simp at hi
    subst hi
    exact lorAll_sub ha (fun j hj=>hX _ o ho hx j (depL_ok hj)) (fun s hs=>by simp at hs)
   ·rw[List.getElem?_eq_none (by simp;omega)] at hi;cases hi
theorem full_ok {i c:Nat} (h:full i c=true):∀s,s<i→c.testBit s=true:=fun s hs=>by
 unfold full at h
 rw[nbeq] at h
 have h:c &&& (2 ^ i-1)=2 ^ i-1:=of_decide_eq_true h
 have:=congrArg (fun z=>Nat.testBit z s) h
 simp only[Nat.testBit_and,Nat.testBit_two_pow_sub_one,hs,decide_true,Bool.and_true] at this
 exact this
theorem waits_ok {ops:List Oper} {n:Nat} {X:List Bool} (hX:Closed ops X):∀ {l:List Oper} {i:Nat},waits (closN ops []) n i l=true→∀(j:Nat) (o:Oper),l[j]? = some o→bigDep o (i+j)=true∧((∀s,depOn o s=true→X[s]? = some true)→∀s,s<i+j→X[s]? = some true)
 | [],i,_,j,o,h=>by simp at h
 | p :: l,i,hw,j,o,h=>by
  simp only[waits,Bool.and_eq_true] at hw
  cases j with
  | zero =>
   cases h
   refine ⟨hw.1.1,fun hr s hs=>?_⟩
   exact lorAll_sub (closN_sub hX (l:=ops) (acc:=[]) rfl (fun i c hi _=>by simp at hi)) (fun j hj=>hr j (depL_ok hj)) (fun s hs=>by simp at hs) s (full_ok hw.1.2 s hs)
  | succ j =>
   have:=waits_ok hX (l:=l) (i:=i+1) hw.2 j o (by simpa using h)
   rwa [show i+1+j=i+(j+1) by omega] at this
theorem ready_of {ops:Array Oper} {X:List Bool} {i:Nat} (h:i∈Region.ready .any ops ⟨X⟩) (hl:X.length=ops.size):X[i]? = some false∧∃o,ops.toList[i]? = some o∧∀s,depOn o s=true→X[s]? = some true:=by
 obtain ⟨h0,o,ho,hall⟩:=mem_ready.1 h
 have ho':ops.toList[i]? = some o:=by simpa using ho
 have hi:i<X.length:=by rw[hl];exact (Array.getElem?_eq_some_iff.1 ho).1
 rw[getD_mk,List.getElem?_eq_getElem hi] at h0
 refine ⟨by rw[List.getElem?_eq_getElem hi];exact congrArg some h0,o,ho',fun s hs=>?_⟩
 obtain ⟨e,he,hb,rfl⟩:=depOn_ok hs
 have:=hall e he hb
 rw[getD_mk] at this
 cases hq:X[e.on]? with
 | none=>rw[hq] at this;cases this
 | some x=>rw[hq] at this;simp at this;rw[this]
theorem ready_mk {ops:Array Oper} {X:List Bool} {i:Nat} {o:Oper} (hl:X.length=ops.size) (h0:X[i]? = some false) (ho:ops.toList[i]? = some o) (hb:bigDep o i=true) (ha:∀j,j<i→X[j]? = some true):i∈Region.ready .any ops ⟨X⟩:=by
 refine mem_ready.2 ⟨by rw[getD_mk,h0];rfl,o,by simpa using ho,fun e he hbb=>?_⟩
 rw[getD_mk,ha _ (bigDep_ok hb he hbb)]
 rfl
theorem least:∀ {X:List Bool} {i:Nat},X[i]? = some false→∃j,j≤i∧X[j]? = some false∧∀s,s<j→X[s]? = some true
 | [],i,h=>by simp at h
 | false :: X,i,_=>⟨0,by omega,rfl,fun s hs=>by omega⟩
 | true :: X,0,h=>by simp at h
 | true :: X,i+1,h=>by
  obtain ⟨j,h1,h2,h3⟩:=least (X:=X) (i:=i) (by simpa using h)
  refine ⟨j+1,by omega,by simpa using h2,fun s hs=>?_⟩
  cases s with
  | zero=>rfl
  | succ s=>simpa using h3 s bo%
theorem free_okF (B:Base P Γ θ w0 M0 S0) (hC:∀g,FnOk P Γ g (Γ.ent g).sg (cal g)) (ops:Array Oper) {δ:Dl} (hd:δ.d=o.dst) (hs:FSpec Γ N cal ops.toList r o δ) (hl:Le r r2) (hf:∀n,NOwn δ.d n→Fr r2 n) (hk:∀n,n∈keys δ.ob→NOwn δ.d n) (W:RepW θ N w0 M0 S0 ι0 r2 ι S a w)
  (hK:∀ι' S' a' w',RepW θ N w0 M0 S0 ι0 (addD δ r2) ι' S' a' w'→K' a' w'):if Region.wanted o (yielded ops a.tmps) then o.wp P a w K' Q∨(o.asks P a w∧LetsOut Q) else K' (a.put o.dst undef) w:=by
 cases hs with
 | go hs=>exact free_ok B hC ops hd hs hl (fun n hn=>hf n (hk n hn)) W hK
 | frz d m e xs v hg hm hdr hmr hst he =>
  subst he
  have hfm:Fr r2 m:=hf m hm
  rw[if_pos (by simp[Region.wanted,hg])]
  exact .inl (step_ok (k:=fun r=>some r) (q:=addD ⟨some d,v,[(m,.row e xs)]⟩ r2) B hC W (hst Env r2 _ hl (fun n hn=>by simp[keys] at hn;subst hn;exact hfm)) fun r' ι' S' a' w' h' W' _=>by
   cases h'
   obtain ⟨S2,W2⟩:=frz_newV hfm (by rw[hl.rt];exact hdr) (by rw[hl.rn];exact hmr) W'
   exact hK ι' S2 a' w' W2)
end Go.VM
namespace Go.VM
open Go.RowKit
variable {P:Program} {Γ:Ctx} {θ:Nat→Value} {N:Nat} {w0:World} {M0 S0:Nat→Prop} {ι0:Nat→Value} {r r2 b:Env} {ι:Nat→Value} {S:Nat→Prop} {a:Act} {w:World} {R:Type} {cal:Cal Γ} {k:Env→Option R} {q:R} {o:Oper} {ds:List Nat}
 {Q:Exit→Act→World→Prop} {K':Act→World→Prop}
theorem set_true {X:List Bool} {i s:Nat} (h:X[s]? = some true):(X.set i true)[s]? = some true:=by
 rw[List.getElem?_set]
 split
 ·rename_i e
  subst e
  rw[if_pos (List.getElem?_eq_some_iff.1 h).1]
 ·exact h
theorem of_set {X:List Bool} {i s:Nat} (h:(X.set i true)[s]? = some true):s=i∨X[s]? = some true:=by
 rw[List.getElem?_set] at h
 split at h
 ·rename_i e;exact .inl e.symm
 ·exact .inr h
theorem Closed.set {ops:List Oper} {X:List Bool} {i:Nat} (hX:Closed ops X) (ho:ops[i]? = some o) (hd:∀s,depOn o s=true→X[s]? = some true):Closed ops (X.set i true):=fun j o' h1 h2 s h3=>by
 rcases of_set h2 with rfl | h2
 ·rw[ho] at h1;cases h1;exact set_true (hd s h3)
 ·exact set_true (hX j o' h1 h2 s h3)
theorem setB_mk (X:List Bool) (i:Nat):(⟨X⟩:Array Bool).setIfInBounds i true=⟨X.set i true⟩:=by
 apply Array.ext'
 simp
theorem phase2 (B:Base P Γ θ w0 M0 S0) (hC:∀g,FnOk P Γ g (Γ.ent g).sg (cal g)) (ops:Array Oper):∀(l:List Oper) {X:List Bool} {j:Nat} {r:Env} {ι:Nat→Value} {S:Nat→Prop} {a:Act} {w:World},l=ops.toList.drop j→X.length=ops.size →
  (∀i,i<j→X[i]? = some true)→(∀i,j≤i→X[i]?≠some true)→j≤ops.size→waits (closN ops.toList []) ops.size j l=true→Closed ops.toList X→execOps Γ N cal ops.toList l r k=some q→RepW θ N w0 M0 S0 ι0 r ι S a w →
  ExO k q θ N w0 M0 S0 ι0 r Q→wpAny P .any ops Q l.length ⟨X⟩ a w
 | [],X,j,r,ι,S,a,w,hl,hX,h1,h2,hj,hw,hc,h,W,hQ=>by
  have hsz:ops.size≤j:=by
   have:=congrArg List.length hl
   simp at this
   omega
  refine ⟨?_,hQ _ _ _ _ _ h W (.refl r)⟩
  refine List.eq_nil_iff_forall_not_mem.2 fun i hi=>?_
  obtain ⟨g1,o,g2,_⟩:=ready_of hi hX
  have:i<ops.size:=by simpa using (List.getElem?_eq_some_iff.1 g2).1
  rw[h1 i bo%] at g1
  cases g1
 | o :: l,X,j,r,ι,S,a,w,hl,hX,h1,h2,hj,hw,hc,h,W,hQ=>by
  have hoj:ops.toList[j]? = some o:=by
   have:=congrArg (·[0]?) hl
   simpa using this.symm
  have hjlt:j<X.length:=by rw[hX];simpa using (List.getElem?_eq_some_iff.1 hoj).1
  have hXj:X[j]? = some false:=by
   cases hq:X[j]? with
   | none=>rw[List.getElem?_eq_getElem hjlt] at hq;cases hq
   | some x=>cases x with
    | true=>exact absurd hq (h2 j (Nat.le_refl _))
    | false=>rfl
  have hbig:=(waits_ok hc hw 0 o rfl).1
  have hrj:j∈Region.ready .any ops ⟨X⟩:=ready_mk hX hXj hoj hbig h1
  refine ⟨fun h0=>(by rw[h0] at hrj;cases hrj),fun i hi=>?_⟩
  obtain ⟨g1,o',g2,g3⟩:=ready_of hi hX
  have hij:i=j:=by
   have hge:j≤i:=by
    rcases Nat.lt_or_ge i j with h | h
    ·rw[h1 i h] at g1;cases g1
    ·exact h
   have ho':(o :: l)[i-j]? = some o':=by rw[hl,List.getElem?_drop,show j+(i-j)=i by omega];exact g2
   have:=(waits_ok hc hw (i-j) o' ho').2 g3
   rcases Nat.lt_or_ge j i with h | h
   ·have:=this j bo%
    rw[hXj] at this;cases this
   ·omega
  subst hij
  rw[hoj] at g2
  cases g2
  unfold wpOp
  rw[show ops[i]? = some o by simpa using hoj]
  refine gop_ok B hC ops h W fun r' ι' S' a' w' h' W' p'=>?_
  rw[setB_mk]
  refine phase2 B hC ops l (X:=X.set i true) (j:=i+1) ?_ (by simpa using hX) (fun s hs=>?_) (fun s hs hx=>?_) bo% ?_ (hc.set hoj g3) h' W' fun r2 ι2 S2 a2 w2 h2 W2 p2=>hQ _ _ _ _ _ h2 W2 (p'.trans p2)
  ·have:=congrArg (List.drop 1) hl
   simpa [Nat.add_comm] using this
  ·rcases Nat.lt_or_ge s i with h | h
   ·exact set_true (h1 s h)
   ·have:s=i:=by omega
    subst this
    rw[List.getElem?_set,if_pos rfl,if_pos hjlt]
  ·rcases of_set hx with rfl | hx
   ·omega
   ·exact h2 s bo% hx
  ·simp only[waits,Bool.and_eq_true] at hw
   exact hw.2
theorem phase1 (B:Base P Γ θ w0 M0 S0) (hC:∀g,FnOk P Γ g (Γ.ent g).sg (cal g)) (ops:Array Oper) {m:Nat} (hm:m≤ops.size) {δs:List Dl} (hlen:δs.length=m) (hg:Good ds δs) (hb:EFar ds (fun _=>False) b)
  (hfree:∀(i:Nat) (o:Oper),(ops.toList.take m)[i]? = some o→∃δ,δs[i]? = some δ∧FreeOp Γ N cal ops.toList ds b δs i o δ) (hw:waits (closN ops.toList []) ops.size m (ops.toList.drop m)=true)
  (hk:execOps Γ N cal ops.toList (ops.toList.drop m) (envOf b δs (δs.map fun _=>true)) k=some q) (hQ:ExO k q θ N w0 M0 S0 ι0 (envOf b δs (δs.map fun _=>true)) Q):∀(fuel:Nat) {X:List Bool} {ι:Nat→Value} {S:Nat→Prop} {a:Act} {w:World},
  cntF X=fuel→X.length=ops.size→Closed ops.toList X→(∀j,m≤j→X[j]?≠some true)→RepW θ N w0 M0 S0 ι0 (envOf b δs X) ι S a w→wpAny P .any ops Q fuel ⟨X⟩ a w:=by
 intro fuel
 induction fuel with
 | zero =>
  intro X ι S a w hcnt hX hc h2 W
  have hall:=cntF_zero hcnt
  have h1:∀i,i<m→X[i]? = some true:=fun i hi=>hall i bo%
  have hle:Le (envOf b δs (δs.map fun _=>true)) (envOf b δs X):=envOf_le hg hb fun i hi=>h1 i (by have:=(List.getElem?_eq_some_iff.1 hi).1;simp at this;omega)
  have:=phase2 B hC ops (ops.toList.drop m) (X:=X) (j:=m) rfl hX h1 h2 hm hw hc hk (W.forget hle) hQ
  have hd:=cntF_drop h1 h2
  rwa [show (ops.toList.drop m).length=0 by simp;omega] at this
 | succ fuel ih =>
  intro X ι S a w hcnt hX hc h2 W
  by_cases h1:∀i,i<m→X[i]? = some true
  ·have hle:Le (envOf b δs (δs.map fun _=>true)) (envOf b δs X):=envOf_le hg hb fun i hi=>h1 i (by have:=(List.getElem?_eq_some_iff.1 hi).1;simp at this;omega)
   have:=phase2 B hC ops (ops.toList.drop m) (X:=X) (j:=m) rfl hX h1 h2 hm hw hc hk (W.forget hle) hQ
   have hd:=cntF_drop h1 h2
   rwa [show (ops.toList.drop m).length=fuel+1 by simp;omega] at this
  ·have ⟨i0,hi0,hx0⟩:∃i,i<m∧X[i]?≠some true:=Classical.byContradiction fun hn=>h1 fun i hi=>Classical.byContradiction fun h=>hn ⟨i,hi,h⟩
   have hx0':X[i0]? = some false:=by
    have hlt:i0<X.length:=by omega
    cases hq:X[i0]? with
    | none=>rw[List.getElem?_eq_getElem hlt] at hq;cases hq
    | some x=>cases x with
     | true=>exact absurd hq hx0
     | false=>rfl
   obtain ⟨j,hji,hxj,hbelow⟩:=least hx0'
   have hjm:j<m:=by omega
   have hoj:∃o,(ops.toList.take m)[j]? = some o:=⟨_,List.getElem?_eq_getElem (by simp;omega)⟩
   obtain ⟨oj,hoj⟩:=hoj
   have hoj':ops.toList[j]? = some oj:=by
    rw[List.getElem?_take,if_pos hjm] at hoj;exact hoj
   obtain ⟨δj,_,fj⟩:=hfree j oj hoj
   have hrj:j∈Region.ready .any ops ⟨X⟩:=ready_mk hX hxj hoj' fj.big hbelow
   refine ⟨fun h0=>(by rw[h0] at hrj;cases hrj),fun i hi=>?_⟩
   obtain ⟨g1,o,g2,g3⟩:=ready_of hi hX
   rcases Nat.lt_or_ge i m with him | him
   ·have ho:(ops.toList.take m)[i]? = some o:=by rw[List.getElem?_take,if_pos him];exact g2
    obtain ⟨δ,d1,f⟩:=hfree i o ho
    unfold wpOp
    rw[show ops[i]? = some o by simpa using g2]
    refine free_okF B hC ops f.d f.spec (envOf_le hg hb fun s hs=>?_) (envOf_freshN hg hb d1 g1) f.ok.k W fun ι' S' a' w' W'=>?_
    ·have:=(maskOf_get _ _ _ _ hs).1
     rw[Nat.zero_add] at this
     exact g3 s this
    ·rw[setB_mk]
     refine ih (by have:=cntF_set g1;omega) (by simpa using hX) (hc.set g2 g3) (fun s hs hx=>?_) (W'.forget (envOf_set hg d1 g1))
     rcases of_set hx with rfl | hx
     ·omega
     ·exact h2 s hs hx
   ·exfalso
    have ho':(ops.toList.drop m)[i-m]? = some o:=by rw[List.getElem?_drop,show m+(i-m)=i by omega];exact g2
    have:=(waits_ok hc hw (i-m) o ho').2 g3 j bo%
    rw[hxj] at this;cases this
theorem frontN_le (dm:List Nat) (n:Nat):∀(l:List Oper) (i:Nat),frontN dm n i l≤l.length
 | [],_=>Nat.le_refl _
 | o :: l,i=>by
  simp only[frontN]
  have:=frontN_le dm n l (i+1)
  cases Nat.beq (frontN dm n (i+1) l) 0&&waits dm n i [o] with
  | true=>simp
  | false=>simp;omega
theorem cntF_rep (n:Nat):cntF (List.replicate n false)=n:=by
 induction n with
 | zero=>rfl
 | succ n ih=>simp[List.replicate_succ,cntF,ih]
theorem noneIn_ok:∀ {l m:List Nat},noneIn l m=true→∀t,t∈l→t ∉ m
 | [],m,_,t,h=>by cases h
 | s :: l,m,h,t,ht=>by
  simp only[noneIn,Bool.and_eq_true,Bool.not_eq_true',mem_false] at h
  rcases List.mem_cons.1 ht with rfl | ht
  ·exact h.1
  ·exact noneIn_ok h.2 t ht
theorem drawOps_ok (B:Base P Γ θ w0 M0 S0) (hM:P.follows .mixedOrders=true) (hC:∀g,FnOk P Γ g (Γ.ent g).sg (cal g)) {ops:Array Oper} (h:drawOps Γ N cal ops.toList r k=some q) (W:RepW θ N w0 M0 S0 ι0 r ι S a w)
  (hQ:ExO k q θ N w0 M0 S0 ι0 r Q):wpAny P .any ops Q ops.size (Array.replicate ops.size false) a { w with drawn:=w.drawn+1 }:=by
 unfold drawOps at h
 obtain ⟨hb,h⟩:=bif_some h
 simp only[Bool.and_eq_true] at hb
 obtain ⟨⟨⟨⟨⟨c1,c2⟩,c3⟩,c4⟩,c5⟩,c6⟩:=hb
 obtain ⟨δs,h1,h2,h3⟩:=drawGo_spec h
 generalize hmm:frontN (closN ops.toList []) ops.toList.length 0 ops.toList=m at *
 generalize hds:dstL (ops.toList.take m)=ds at *
 simp only[List.nil_append,List.length_nil,Nat.zero_add] at h1 h3
 have hm:m≤ops.size:=by rw[←hmm];simpa using frontN_le (closN ops.toList []) ops.toList.length ops.toList 0
 have hlen:δs.length=m:=by rw[h2];simp;omega
 have hg:Good ds δs:=good_of h2 (by rw[hds];exact c1) (fun t ht=>hds ▸ ht) fun i o ho=>by
  obtain ⟨δ,d1,f⟩:=h3 i o ho
  exact ⟨δ,d1,f.d,f.ok⟩
 have hgt:∀t,Env.get { r with tm:=delAll ds r.tm } t=if t∈ds then none else r.get t:=fun t=>delAll_get
 have hfar:EFar ds (fun _=>False) { r with tm:=delAll ds r.tm } :=
  ⟨fun t v hm=>⟨.inl (delAll_mem hm),fun n hn=>.inl (farT_ok c4 t v hm n hn)⟩,fun n x hm=>⟨.inl (farO_ok c5 n x hm).1,fun m hmm=>.inl ((farO_ok c5 n x hm).2 m hmm)⟩⟩
 have hle:Le { r with tm:=delAll ds r.tm } r:=⟨fun t v e=>by
  rw[hgt] at e
  split at e
  ·cases e
  ·exact e,fun _ _ e=>e,rfl,rfl⟩
 have hp:Prot r (envOf { r with tm:=delAll ds r.tm } δs (δs.map fun _=>true)):=by
  have e:=envOf_rt (b:={ r with tm:=delAll ds r.tm }) (l:=δs) (M:=δs.map fun _=>true)
  refine ⟨e.1,e.2,fun t ht=>?_,fun n hn=>?_⟩
  ·have htd:t ∉ ds:=fun hx=>noneIn_ok c2 t hx ht
   rw[envOf_get htd hg,hgt,if_neg htd]
  ·rw[envOf_obj (farNs_ok c3 n hn) hg];rfl
 have W1:RepW θ N w0 M0 S0 ι0 { r with tm:=delAll ds r.tm } ι S a { w with drawn:=w.drawn+1 }:=(W.forget hle).below ⟨rfl,rfl,rfl,Nat.le_refl _,fun _ _=>rfl⟩
 have hrep:Array.replicate ops.size false=⟨List.replicate ops.size false⟩:=by apply Array.ext';simp
 rw[hrep]
 have hno:∀j,(List.replicate ops.size false)[j]?≠some true:=fun j hj=>by
  rw[List.getElem?_replicate] at hj
  split at hj <;> cases hj
 refine phase1 B hC ops hm hlen hg hfar h3 (by simpa using c6) h1 (fun r' ι' S' a' w' e1 e2 e3=>hQ _ _ _ _ _ e1 e2 (hp.trans e3)) ops.size (cntF_rep _) (by simp) (fun j o _ hj=>absurd hj (hno j)) (fun j _=>hno j) (W1.forget ?_)
 have:Le (envOf { r with tm:=delAll ds r.tm } δs (List.replicate ops.size false)) (envOf { r with tm:=delAll ds r.tm } δs []):=envOf_le hg hfar fun i hi=>absurd hi (hno i)
 rw[envOf_nil] at this
 exact this
end Go.VM
