import Derived.Test.YtghpjlmaamnnpaaDoorH03
set_option linter.all false
namespace Go.X
open Go
theorem putAt_length:∀ (l:List Value) (k:Nat) (vs:List Value),k+vs.length ≤ l.length → (putAt l k vs).length=l.length
 |l,0,vs,h=>by simp[putAt];omega
 |x :: l,k+1,vs,h=>by simp[putAt,putAt_length l k vs (by simp at h;omega)]
 |[],k+1,vs,h=>by simp at h
theorem putAt_get:∀ (l:List Value) (k:Nat) (vs:List Value) (i:Nat),k+vs.length ≤ l.length →
  (putAt l k vs)[i]?=if k ≤ i ∧ i<k+vs.length then vs[i-k]? else l[i]?
 |l,0,vs,i,h=>by
  simp only[putAt,Nat.zero_le,true_and,Nat.zero_add,Nat.sub_zero]
  by_cases hi:i<vs.length
  ·rw[if_pos hi,List.getElem?_append_left hi]
  ·rw[if_neg hi,List.getElem?_append_right (by omega),List.getElem?_drop]
   congr 1;omega
 |x :: l,k+1,vs,0,h=>by simp[putAt]
 |x :: l,k+1,vs,i+1,h=>by
  simp only[putAt,List.getElem?_cons_succ]
  rw[putAt_get l k vs i (by simp at h;omega)]
  by_cases hc:k ≤ i ∧ i<k+vs.length
  ·rw[if_pos hc,if_pos (by omega)];congr 1;omega
  ·rw[if_neg hc,if_neg (by omega)]
 |[],k+1,vs,i,h=>by simp at h
theorem VL.putAt {ρ:Rn}:∀ {l cs:List Value}{k:Nat}{vs ds:List Value},VL ρ l cs → VL ρ vs ds → k+vs.length ≤ l.length → VL ρ (putAt l k vs) (putAt cs k ds)
 |l,cs,k,vs,ds,h,h',hk=>by
  have e1:=h.length
  have e2:=h'.length
  refine VL.of_get (by rw[putAt_length _ _ _ hk,putAt_length _ _ _ (by omega)];exact e1) fun i v c hv hc=>?_
  rw[putAt_get _ _ _ _ hk]at hv
  rw[putAt_get _ _ _ _ (by omega)]at hc
  by_cases hi:k ≤ i ∧ i<k+vs.length
  ·rw[if_pos hi]at hv
   rw[if_pos (by omega)]at hc
   exact h'.get hv hc
  ·rw[if_neg hi]at hv
   rw[if_neg (by omega)]at hc
   exact h.get hv hc
def storeList (w:World) (a:Addr):List Value → Nat → World
 |[],_=>w
 |v :: vs,i=>storeList (w.setCell (a.add i) v) a vs (i+1)
theorem run_storeCells {P:Program}{a:Addr}:∀ (vs:List Value) (i:Nat) (w:World),(∀ v∈vs,v.oneCell'=true) →
  (∀ j,i ≤ j → j<i+vs.length → (w.cell? (a.add j)).isSome=true ∧ w.frozen? (a.add j)=false) →
  (storeCells a vs i).run P w=.ok () (storeList w a vs i)
 |[],i,w,_,_=>by simp[storeCells,storeList]
 |v :: vs,i,w,h1,h2=>by
  obtain⟨hc,hf⟩:=h2 i (Nat.le_refl _) (by simp)
  obtain⟨u,hu⟩:=Option.isSome_iff_exists.1 hc
  have hst:=run_store P w (a.add i) v .plain (h1 v (by simp))
  simp only[storeCells,Sem.run_bind]
  have e:(store (a.add i) v).run P w=.ok () (w.setCell (a.add i) v):=by
   rw[hst];simp[hu,hf]
  rw[e]
  simp only[Result.andThen_ok,storeList]
  refine run_storeCells vs (i+1) _ (fun x hx=>h1 x (by simp[hx])) fun j hj hj'=>?_
  obtain⟨hc2,hf2⟩:=h2 j (by omega) (by simp;omega)
  refine⟨?_,by simp[hf2]⟩
  by_cases e:a.add i=a.add j
  ·rw[← e,World.cell?_setCell_same _ _ _ hu];rfl
  ·rw[World.cell?_setCell_other _ _ _ _ e];exact hc2
theorem storeList_heap {a:Addr}{e:TypeId}{z:Nat × Nat} (hs:a.spot=none):∀ (vs:List Value) (i:Nat) (w:World) (c:Array Value),w.heap[a.block]?=some (.cells c e z) →
  a.off+i+vs.length ≤ c.size →
  (storeList w a vs i).heap[a.block]?=some (.cells ⟨putAt c.toList (a.off+i) vs⟩ e z) ∧
  (∀ k,k≠a.block → (storeList w a vs i).heap[k]?=w.heap[k]?) ∧ (storeList w a vs i).heap.size=w.heap.size ∧
  (storeList w a vs i).os=w.os ∧ (storeList w a vs i).tape=w.tape ∧ (storeList w a vs i).output=w.output
 |[],i,w,c,h,hl=>by
  refine⟨?_,fun _ _=>rfl,rfl,rfl,rfl,rfl⟩
  have:putAt c.toList (a.off+i) []=c.toList:=by
   apply List.ext_getElem?
   intro j
   rw[putAt_get _ _ _ _ (by simpa using hl)]
   rw[if_neg (by simp)]
  rw[this]
  exact h
 |v :: vs,i,w,c,h,hl=>by
  have hadd:a.add i=⟨a.block,a.off+i,none⟩:=by
   simp only[Addr.add]
   split
   ·rename_i hi;subst hi;cases a;simp at hs;subst hs;rfl
   ·rfl
  have hlt:a.off+i<c.size:=by simp at hl;omega
  have hset:(w.setCell (a.add i) v).heap[a.block]?=some (.cells (c.setIfInBounds (a.off+i) v) e z):=by
   rw[hadd]
   simp[World.setCell,Array.getElem?_modify,h]
  obtain⟨g1,g2,g3,g4,g5,g6⟩:=storeList_heap hs vs (i+1) (w.setCell (a.add i) v) (c.setIfInBounds (a.off+i) v) hset (by simp at hl ⊢;omega)
  refine⟨?_,fun k hk=>?_,?_,g4,g5,g6⟩
  ·rw[storeList,g1]
   congr 3
   apply List.ext_getElem?
   intro j
   rw[putAt_get _ _ _ _ (by simp at hl ⊢;omega),putAt_get _ _ _ _ (by simp at hl ⊢;omega)]
   simp only[Array.toList_setIfInBounds,List.length_cons]
   by_cases h1:a.off+(i+1) ≤ j ∧ j<a.off+(i+1)+vs.length
   ·rw[if_pos h1,if_pos (by omega)]
    have:j-(a.off+i)=(j-(a.off+(i+1)))+1:=by omega
    rw[this,List.getElem?_cons_succ]
   ·rw[if_neg h1]
    by_cases h2:j=a.off+i
    ·subst h2
     rw[if_pos (by omega)]
     simp[hlt]
    ·rw[if_neg (by omega),List.getElem?_set_ne (by omega)]
  ·rw[storeList,g2 k hk]
   rw[hadd]
   simp only[World.setCell,Array.getElem?_modify]
   rw[if_neg (by simpa using Ne.symm hk)]
  ·rw[storeList,g3];simp
theorem addr_add_spot {a:Addr} (n:Nat) (h:a.spot=none):(a.add n).spot=none:=by
 simp only[Addr.add];split
 ·exact h
 ·rfl
theorem addr_add_off (a:Addr) (n:Nat):(a.add n).off=a.off+n:=by
 simp only[Addr.add];split
 ·omega
 ·rfl
theorem cell_in {w:World}{a:Addr}{c:Array Value}{e:TypeId}{z:Nat × Nat} (hb:w.heap[a.block]?=some (.cells c e z)) (hs:a.spot=none) (k:Nat) :
  w.cell? (a.add k)=c[a.off+k]?:=by
 simp only[World.cell?,addr_add_block,hb,addr_add_spot k hs,addr_add_off]
 simp
theorem frozen_in {w:World}{a:Addr}{c:Array Value}{e:TypeId}{lo hi:Nat} (hb:w.heap[a.block]?=some (.cells c e (lo,hi))) (k:Nat) (h:¬ (lo ≤ a.off+k ∧ a.off+k<hi)) :
  w.frozen? (a.add k)=false:=by
 simp only[World.frozen?,addr_add_block,hb,addr_add_off]
 simp;omega
theorem Good.turn {P:Program}{ρ:Rn}{g:G} {w w':World}{n news id:Nat}{l:L} {b b':Blk} (h:RelH P ρ g w) (hg:g id=some b) (hro:b.ro=false)
  (hl:ρ id=some l) (hos:w'.os=w.os) (htape:w'.tape=w.tape) (hout:w'.output=w.output) (hsz:w.heap.size ≤ w'.heap.size)
  (hold:∀ k,k≠l.addr.block → w'.heap[k]?=w.heap[k]?) (hb:Holds P ρ w' l b') :
  Good P ρ g w n [(id,some b')] news ρ w':=by
 refine⟨Le.refl _,fun _ h h'=>absurd h h',h.turn hg hro hl hold hb,⟨hos,htape,hout,hsz,fun k _ hk=>hold k ?_⟩,?_⟩
 ·rintro rfl
  exact hk ⟨id,b,l,hg,hro,hl,rfl⟩
 ·rintro k ⟨id',c,m,hg',hro',hm,rfl⟩
  refine .inl ?_
  by_cases e:id'=id
  ·subst e
   rw[hl]at hm;cases hm
   exact⟨id',b,l,hg,hro,hl,rfl⟩
  ·simp only[gapply]at hg'
   rw[gset_ne _ _ e]at hg'
   exact⟨id',c,m,hg',hro',hm,rfl⟩
theorem all_one_conc {ρ:Rn}:∀ {vs cs:List Value},VL ρ vs cs → vs.all isOne=true → ∀ c∈cs,c.oneCell'=true
 |[],[],_,_,c,hc=>by simp at hc
 |v :: vs,d :: cs,h,h1,c,hc=>by
  simp only[List.all_cons,Bool.and_eq_true]at h1
  rcases List.mem_cons.1 hc with rfl|hc
  ·exact isOne_conc h.1 h1.1
  ·exact all_one_conc h.2 h1.2 c hc
theorem run_storeAt {P:Program}{w:World}{t k:Nat}{a:Addr}{v:Value} (h2:sizeT P t=some k) (hk:v.cells.size=k)
  {r:Result Unit} (h:(storeCells a v.cells.toList).run P w=r):(Instr.storeAt t (.pointer (some a)) v).run P w=r:=by
 simp[Instr.storeAt,Instr.sureAddr,storeVar,sizeOf_run h2,hk,h]
theorem putAt_holds {ρ:Rn}{c:List Value}{off:Nat}{cs us vs:List Value}{fo:Nat} (hv:VL ρ vs us) (h1:vs.all isOne=true) (hk:fo+vs.length ≤ cs.length) (hc:off+cs.length ≤ c.length)
  (h:∀ o v,cs[o]?=some v → ∃ u,c[off+o]?=some u ∧ CV ρ v u) :
  ∀ o v,(putAt cs fo vs)[o]?=some v → ∃ u,(putAt c (off+fo) us)[off+o]?=some u ∧ CV ρ v u:=by
 intro o v ho
 have e:=hv.length
 have hlt:o<cs.length:=by have:=lt_of_get ho;rwa [putAt_length _ _ _ hk]at this
 rw[putAt_get _ _ _ _ hk]at ho
 rw[putAt_get _ _ _ _ (by omega)]
 by_cases hi:fo ≤ o ∧ o<fo+vs.length
 ·rw[if_pos hi]at ho
  rw[if_pos (by omega)]
  have hx:o-fo<us.length:=by omega
  refine⟨us[o-fo],by rw[show off+o-(off+fo)=o-fo by omega];simp[hx],List.all_eq_true.1 h1 v (List.mem_of_getElem? ho),hv.get ho (by simp[hx])⟩
 ·rw[if_neg hi]at ho
  rw[if_neg (by omega)]
  exact h o v ho
theorem mixC_eq {c:Bool}{v x:Value} (h:mixOK c v x=true):mixC c v x=cond c v x:=by
 unfold mixOK at h
 unfold mixC
 split
 ·rename_i k n k' m
  simp only at h
  by_cases e:k=k'
  ·subst e;simp;cases c<;>rfl
  ·simp[e]at h ⊢;subst h;rfl
 ·cases c<;>rfl
 ·cases c<;>rfl
 ·cases c<;>rfl
 ·rename_i h1 h2 h3 h4
  split at h
  ·exact absurd rfl (h1 _ _ _ _ rfl)
  ·exact absurd rfl (h2 _ _ rfl)
  ·exact absurd rfl (h3 _ _ rfl)
  ·exact absurd rfl (h4 _ _ rfl)
  ·simp at h;subst h;rfl
theorem updC_eq {fo:Nat}{v:Value}:∀ (l:List Value) (i:Nat),updOK fo v i l=true → (i ≤ fo → fo<i+l.length → updC fo v i l=putAt l (fo-i) [v]) ∧ (fo<i → updC fo v i l=l)
 |[],i,_=>⟨fun h h'=>by simp at h';omega,fun _=>rfl⟩
 |x :: l,i,h=>by
  simp only[updOK,Bool.and_eq_true]at h
  obtain⟨h1,h2⟩:=updC_eq l (i+1) h.2
  simp only[updC,mixC_eq h.1]
  refine⟨fun hi hl=>?_,fun hi=>?_⟩
  ·by_cases e:i=fo
   ·subst e
    rw[h2 (by omega)]
    simp[putAt]
   ·have:Nat.beq i fo=false:=by
     cases hb:Nat.beq i fo with
     |false=>rfl
     |true=>exact absurd (Nat.eq_of_beq_eq_true hb) e
    rw[this,cond_false,h1 (by omega) (by simp at hl;omega),show fo-i=(fo-(i+1))+1 by omega]
    rfl
  ·have:Nat.beq i fo=false:=by
    cases hb:Nat.beq i fo with
    |false=>rfl
    |true=>have:=Nat.eq_of_beq_eq_true hb;omega
   rw[this,cond_false,h2 (by omega)]
theorem isOne_cells {v:Value} (h:isOne v=true):vcells v=[v]:=by cases v<;>first|rfl|cases h
theorem putDyn_some {k id fo:Nat}{v:Value}{cs:List Value}{r:Res} (h:putDyn k id fo v cs=some r) (hok:r.ok=true) :
  (vcells v).length=k ∧ fo+k ≤ cs.length ∧ (vcells v).all isOne=true ∧ r=⟨undefd,[(id,some (.var (putAt cs fo (vcells v))))],0,r.ok⟩:=by
 unfold putDyn at h
 obtain⟨h1,h2⟩:=must_some h
 rw[fz_eq,fzL_eq]at h2
 simp only[Option.some.injEq]at h2
 subst h2
 simp only[Bool.and_eq_true]at hok
 obtain⟨a1,a2,a3⟩:=hok
 have hk:=Nat.eq_of_beq_eq_true h1
 have hl:=blt_lt a2
 have:=(updC_eq cs 0 a3).1 (Nat.zero_le _) (by omega)
 rw[isOne_cells a1]
 refine⟨by simp[hk],by omega,by simp[a1],?_⟩
 simp[this]
theorem store_runs {P:Program}{ρ:Rn}{g:G}{w:World}{n t k:Nat}{vs:List Value}{bs:List Blk}{c d:Value}{r:Res}
  (h2:sizeT P t=some k) (ha:aStore k vs bs=some r) (hok:r.ok=true) (hv:VL ρ vs [c,d]) (hr:RelH P ρ g w) (hb:GL g (ptrId vs) bs) :
  Runs P (uS (Instr.storeAt t c d)) ρ g w n r:=by
 have var:∀ {id idx fo:Nat}{v:Value}{cs:List Value},GL g [id] [Blk.var cs] → VL ρ [.pointer (some ⟨id,idx,some fo⟩),v] [c,d] →
   ((vcells v).length=k ∧ fo+k ≤ cs.length ∧ (vcells v).all isOne=true ∧ r=⟨undefd,[(id,some (.var (putAt cs fo (vcells v))))],0,r.ok⟩) → Runs P (uS (Instr.storeAt t c d)) ρ g w n r:=by
  intro id idx fo v cs hb1 hv1 key
  simp only[GL,VL,and_true]at hb1 hv1
  obtain⟨hp,hv2⟩:=hv1
  obtain⟨l,hl,rfl⟩:=v_ptr hp
  have hc:=v_cells hv2
  obtain⟨k1,k2,k3,k4⟩:=key
  obtain⟨l',hl',hh⟩:=hr.holds _ _ hb1
  rw[hl]at hl';cases hl'
  obtain⟨⟨q1,q0⟩,cc,e,lo,hi,q2,q3,q4,q5⟩:=_root_.id hh
  have hsz:d.cells.toList.length=k:=by rw[← hc.length];exact k1
  have hsz':d.cells.size=k:=by simpa using hsz
  have hst:=run_storeCells (P:=P) (a:=l.addr.add fo) d.cells.toList 0 w (all_one_conc hc k3) (fun j _ hj=>by
   rw[addr_add_add]
   refine⟨?_,frozen_in q2 _ (q4 _ (by omega) (by omega))⟩
   rw[cell_in q2 q1]
   have:l.addr.off+(fo+j)<cc.size:=by omega
   simp[this])
  obtain⟨g1,g2,g3,g4,g5,g6⟩:=storeList_heap (addr_add_spot fo q1) d.cells.toList 0 w cc (by rw[addr_add_block];exact q2) (by rw[addr_add_off];omega)
  rw[addr_add_block]at g1 g2
  rw[addr_add_off,Nat.add_zero]at g1
  rw[k4]
  refine⟨ρ,_,Good.turn hr hb1 rfl hl g4 g5 g6 (Nat.le_of_eq g3.symm) g2 ?_,.inr ⟨run_uS (run_storeAt h2 (by simpa using hsz) ?_),rfl⟩⟩
  ·refine⟨⟨q1,q0⟩,_,e,lo,hi,g1,?_,?_,?_⟩
   ·rw[putAt_length _ _ _ (by omega)]
    show _ ≤ (putAt cc.toList (l.addr.off+fo) d.cells.toList).length
    rw[putAt_length _ _ _ (by simp;omega)]
    simpa using q3
   ·rw[putAt_length _ _ _ (by omega)];exact q4
   ·intro o v' ho
    obtain⟨u,hu,hvu⟩:=putAt_holds (c:=cc.toList) (off:=l.addr.off) hc k3 (by omega) (by simpa using q3) (fun o v ho=>by simpa using q5 o v ho) o v' ho
    exact⟨u,by simpa using hu,hvu⟩
  ·rw[q0,Nat.mul_zero,Nat.zero_add];exact hst
 rw[aStore_eq]at ha
 unfold aStore0 at ha
 split at ha
 ·rw[normL_eq]at ha
  obtain⟨h1,h2'⟩:=must_some ha
  rw[normL_eq]at h2'
  simp only[Option.some.injEq]at h2'
  subst h2'
  simp only[Bool.and_eq_true]at h1
  exact var hb hv ⟨Nat.eq_of_beq_eq_true h1.1.1,ble_le h1.1.2,h1.2,rfl⟩
 ·exact var hb hv (putDyn_some ha hok)
 ·rename_i id idx fo v m st f opn
  simp only[ptrId,GL,VL,and_true]at hb hv
  obtain⟨hp,hv⟩:=hv
  obtain⟨l,hl,rfl⟩:=v_ptr hp
  have hc:=v_cells hv
  rw[normL_eq]at ha
  obtain⟨h1,h2'⟩:=must_some ha
  rw[normL_eq]at h2'
  simp only[Option.some.injEq]at h2'
  subst h2'
  simp only[Bool.and_eq_true]at h1
  have k1:=Nat.eq_of_beq_eq_true h1.1.1
  have k2:=ble_le h1.1.2
  have k3:=h1.2
  have k5:idx<m:=blt_lt hok
  obtain⟨l',hl',hh⟩:=hr.holds _ _ hb
  rw[hl]at hl';cases hl'
  obtain⟨p1,p2,p3,p4⟩:=_root_.id hh
  obtain⟨cc,e,lo,hi,q2,q1,q3,q4⟩:=p4 rfl
  subst p1
  have hst0:=(p3 idx k5).1
  have hsz:d.cells.toList.length=k:=by rw[← hc.length];exact k1
  have hsz':d.cells.size=k:=by simpa using hsz
  have hmul:idx*l.stride+l.stride ≤ m*l.stride:=by
   have:=Nat.mul_le_mul_right l.stride (show idx+1 ≤ m by omega)
   rwa [Nat.succ_mul]at this
  have hex:m*l.stride ≤ (m+l.extra)*l.stride:=Nat.mul_le_mul_right l.stride (by omega)
  have hst:=run_storeCells (P:=P) (a:=l.addr.add (idx*l.stride+fo)) d.cells.toList 0 w (all_one_conc hc k3) (fun j _ hj=>by
   rw[addr_add_add]
   refine⟨?_,frozen_in q2 _ (q4 _ (by omega) (by omega))⟩
   rw[cell_in q2 q1]
   have:l.addr.off+(idx*l.stride+fo+j)<cc.size:=by omega
   simp[this])
  obtain⟨g1,g2,g3,g4,g5,g6⟩:=storeList_heap (addr_add_spot (idx*l.stride+fo) q1) d.cells.toList 0 w cc (by rw[addr_add_block];exact q2) (by rw[addr_add_off];omega)
  rw[addr_add_block]at g1 g2
  rw[addr_add_off,Nat.add_zero]at g1
  refine⟨ρ,_,Good.turn hr hb rfl hl g4 g5 g6 (Nat.le_of_eq g3.symm) g2 ?_,.inr ⟨run_uS (run_storeAt h2 (by simpa using hsz) hst),rfl⟩⟩
  have hlen:(putAt cc.toList (l.addr.off+(idx*l.stride+fo)) d.cells.toList).length=cc.size:=by
   rw[putAt_length _ _ _ (by simp;omega)];simp
  refine⟨rfl,p2,fun j hj=>?_,fun _=>⟨_,e,lo,hi,g1,q1,by show _ ≤ (putAt _ _ _).length;omega,q4⟩⟩
  have hcell:∀ o,o<l.stride → (storeList w (l.addr.add (idx*l.stride+fo)) d.cells.toList 0).cell? (l.addr.add (j*l.stride+o)) =
    (putAt cc.toList (l.addr.off+(idx*l.stride+fo)) d.cells.toList)[l.addr.off+(j*l.stride+o)]?:=by
   intro o _
   rw[cell_in g1 q1];simp
  by_cases e:j=idx
  ·subst e
   have er:rowSet f j (putAt (f j) fo (vcells v)) j=putAt (f j) fo (vcells v):=by simp[rowSet]
   rw[er]
   refine⟨by rw[putAt_length _ _ _ (by omega)];exact hst0,fun o v' ho=>?_⟩
   have ho':o<l.stride:=by have:=lt_of_get ho;rw[putAt_length _ _ _ (by omega),hst0]at this;exact this
   rw[hcell o ho']
   obtain⟨u,hu,hvu⟩:=putAt_holds (c:=cc.toList) (off:=l.addr.off+j*l.stride) hc k3 (by omega) (by simp;omega) (fun o v ho=>by
    obtain⟨u,hu,hvu⟩:=(p3 j hj).2 o v ho
    rw[cell_in q2 q1]at hu
    exact⟨u,by simpa [Nat.add_assoc]using hu,hvu⟩) o v' ho
   exact⟨u,by rw[← Nat.add_assoc,← Nat.add_assoc];exact hu,hvu⟩
  ·have er:rowSet f idx (putAt (f idx) fo (vcells v)) j=f j:=by
    have:Nat.beq j idx=false:=by
     cases hb:Nat.beq j idx with
     |false=>rfl
     |true=>exact absurd (Nat.eq_of_beq_eq_true hb) e
    simp[rowSet,this]
   rw[er]
   refine⟨(p3 j hj).1,fun o v' ho=>?_⟩
   have ho':o<l.stride:=by have:=lt_of_get ho;rw[(p3 j hj).1]at this;exact this
   obtain⟨u,hu,hvu⟩:=(p3 j hj).2 o v' ho
   rw[cell_in q2 q1]at hu
   refine⟨u,?_,hvu⟩
   rw[hcell o ho',putAt_get _ _ _ _ (by simp;omega),if_neg ?_]
   ·simpa using hu
   ·rcases Nat.lt_or_ge j idx with h|h
    ·have:=Nat.mul_le_mul_right l.stride (show j+1 ≤ idx by omega)
     rw[Nat.succ_mul]at this
     omega
    ·have:=Nat.mul_le_mul_right l.stride (show idx+1 ≤ j by omega)
     rw[Nat.succ_mul]at this
     omega
 ·cases ha
end Go.X
namespace Go.X
open Go
theorem vcells_eq (v:Value):vcells v=v.cells.toList:=by cases v<;>rfl
theorem zeroCells_some {P:Program}{t:TypeId}{z:List Value} (h:zeroCells P t=some z) :
  ∃ i Z,P.info? t=some i ∧ i.zero=some Z ∧ Z.cells.toList=z ∧ z.all okc1=true ∧ z.length=i.size:=by
 unfold zeroCells at h
 split at h
 ·rename_i i hi
  split at h
  ·rename_i Z hZ
   cases hc:((vcells Z).all okc1&&decide ((vcells Z).length=i.size))with
   |false=>simp[hc]at h
   |true =>
    simp only[hc,cond_true,Option.some.injEq]at h
    subst h
    simp only[Bool.and_eq_true,decide_eq_true_eq]at hc
    exact⟨i,Z,hi,hZ,(vcells_eq Z).symm,hc.1,hc.2⟩
  ·cases h
 ·cases h
theorem new_runs {P:Program}{ρ:Rn}{g:G}{w:World}{n t:Nat}{z:List Value} (h:zeroCells P t=some z) (hr:RelH P ρ g w) (hn:ρ n=none) :
  Runs P (vS (Instr.alloc t true (.tuple #[]))) ρ g w n ⟨.pointer (some ⟨n,0,some 0⟩),[(n,some (.var z))],1,true⟩:=by
 obtain⟨i,Z,h1,h2,h3,h4,h5⟩:=zeroCells_some h
 refine⟨_,_,Good.var hr hn (c:=Z.cells) (t:=t) (by rw[h3];exact VL.self h4) (okc1_ones h4),.inl ⟨_,run_vS ?_,v_newvar⟩⟩
 simp[Instr.alloc,zeroValue,typeInfo,h1,h2,newVar,newRow]
theorem box_runs {P:Program}{ρ:Rn}{g:G}{w:World}{n t:Nat}{vs:List Value}{c:Value}{r:Res} (ha:aBox n vs=some r) (hv:VL ρ vs [c]) (hr:RelH P ρ g w) (hn:ρ n=none) :
  Runs P (vS (Instr.box t c)) ρ g w n r:=by
 unfold aBox at ha
 split at ha
 ·rename_i v
  rw[normL_eq]at ha
  obtain⟨h1,ha⟩:=must_some ha
  simp only[Option.some.injEq]at ha
  subst ha
  refine⟨_,_,Good.var hr hn (c:=c.cells) (t:=t) (v_cells hv.1) h1,.inl ⟨_,run_vS ?_,v_newvar⟩⟩
  simp[Instr.box,newVar,newRow]
 ·cases ha
def PR (place:Nat → Option (Nat × Nat)):List (Nat × Operand) → List (Nat × Nat × Operand) → Prop
 |[],[]=>True
 |(i,x) :: l,(o,s,y) :: m=>place i=some (o,s) ∧ x=y ∧ PR place l m
 |_,_=>False
theorem fill_VL {ρ:Rn}{place:Nat → Option (Nat × Nat)}{e:Operand → Value}:∀ (l:List (Nat × Operand)) (ps:List (Nat × Nat × Operand)) (vs:List Value) (cs:List Value) (C:Array Value) (r:List Value),
  PR place l ps → VL ρ vs ((sndOps ps).map e) → VL ρ cs C.toList → fillAt cs ps vs=some r →
  ∃ R,Instr.fill place C (l.map fun p=>(p.1,e p.2))=some R ∧ VL ρ r R.toList
 |[],[],[],cs,C,r,_,_,hc,h=>by simp[fillAt]at h;subst h;exact⟨C,rfl,hc⟩
 |(i,x) :: l,(o,s,y) :: ps,v :: vs,cs,C,r,hp,hv,hc,h=>by
  obtain⟨hp1,rfl,hp2⟩:=hp
  obtain⟨hv1,hv2⟩:=hv
  simp only[fillAt]at h
  have hcond:(Nat.beq (vcells v).length s&&Nat.ble (o+s) cs.length)=true:=by
   cases hb:(Nat.beq (vcells v).length s&&Nat.ble (o+s) cs.length)with
   |true=>rfl
   |false=>simp[hb]at h
  rw[hcond]at h
  simp only[cond_true]at h
  simp only[Bool.and_eq_true]at hcond
  have e1:=Nat.eq_of_beq_eq_true hcond.1
  have e2:=ble_le hcond.2
  have hcv:=v_cells hv1
  have e3:=hcv.length
  have e4:=hc.length
  obtain⟨g1,g2⟩:=Great.foldl_set o (e x).cells.toList 0 C
  have hput:((e x).cells.toList.zipIdx 0).foldl (fun cs (x:Value × Nat)=>cs.setIfInBounds (o+x.2) x.1) C=⟨putAt C.toList o (e x).cells.toList⟩:=by
   apply Array.ext'
   apply List.ext_getElem?
   intro j
   have:=g2 j
   rw[← Array.getElem?_toList]at this
   rw[this]
   show _=(putAt C.toList o (e x).cells.toList)[j]?
   rw[putAt_get _ _ _ _ (by omega)]
   simp only[Nat.add_zero]
   by_cases hj:o ≤ j ∧ j<o+(e x).cells.toList.length
   ·rw[if_pos ⟨hj.1,hj.2,by simp at e4;omega⟩,if_pos hj]
   ·rw[if_neg (by omega),if_neg hj];simp
  obtain⟨R,hR,hV⟩:=fill_VL l ps vs (putAt cs o (vcells v)) ⟨putAt C.toList o (e x).cells.toList⟩ r hp2 hv2 (hc.putAt hcv (by omega)) h
  refine⟨R,?_,hV⟩
  simp only[List.map_cons]
  unfold Instr.fill
  simp only[hp1]
  rw[if_neg (by simp at e3 e4 ⊢;omega)]
  rw[← hR,← hput]
  congr 1
  rw[← Array.foldl_toList,Array.toList_zipIdx]
 |[],_ :: _,_,_,_,_,hp,_,_,_=>hp.elim
 |_ :: _,[],_,_,_,_,hp,_,_,_=>by rename_i a _ _ _ _ _ _ _ _;obtain⟨_,_⟩:=a;exact hp.elim
 |[],[],_ :: _,_,_,_,_,hv,_,_=>hv.elim
 |_ :: _,(_,_,_) :: _,[],_,_,_,_,hv,_,_=>hv.elim
theorem PR_struct {P:Program}{fs:Array Field}:∀ {l:List (Nat × Operand)}{ps:List (Nat × Nat × Operand)},l.mapM (fun p=>match fs[p.1]? with
        |some f=>(sizeT P f.type).map fun s=>(f.offset,s,p.2)
        |none=>none)=some ps → ∀ {pl:List (Nat × Nat)},fs.toList.mapM (fun f=>(P.info? f.type).map fun i=>(f.offset,i.size))=some pl → PR (fun i=>pl.toArray[i]?) l ps
 |[],ps,h,pl,hpl=>by simp at h;subst h;trivial
 |(i,x) :: l,ps,h,pl,hpl=>by
  simp only[List.mapM_cons,Option.bind_eq_bind,Option.pure_def]at h
  cases hf:fs[i]? with
  |none=>simp[hf]at h
  |some f =>
   simp only[hf]at h
   cases hs:sizeT P f.type with
   |none=>simp[hs]at h
   |some s =>
    cases hm:l.mapM (fun p=>match fs[p.1]? with
     |some f=>(sizeT P f.type).map fun s=>(f.offset,s,p.2)
     |none=>none)with
    |none=>simp[hs,hm]at h
    |some ps' =>
     simp[hs,hm]at h
     subst h
     refine⟨?_,rfl,PR_struct hm hpl⟩
     have:∀ (fl:List Field) (pl:List (Nat × Nat)),fl.mapM (fun f=>(P.info? f.type).map fun i=>(f.offset,i.size))=some pl → ∀ (i:Nat),fl[i]?=some f → pl[i]?=some (f.offset,s):=by
      intro fl
      induction fl with
      |nil=>intro pl _ i hi;simp at hi
      |cons f0 fl ih =>
       intro pl hpl i hi
       simp only[List.mapM_cons,Option.bind_eq_bind,Option.pure_def]at hpl
       cases h0:P.info? f0.type with
       |none=>simp[h0]at hpl
       |some i0 =>
        cases hr:fl.mapM (fun f=>(P.info? f.type).map fun i=>(f.offset,i.size))with
        |none=>simp[h0,hr]at hpl
        |some rest =>
         simp[h0,hr]at hpl
         subst hpl
         cases i with
         |zero =>
          simp at hi;subst hi
          simp[sizeT,h0]at hs;subst hs;rfl
         |succ i=>simpa using ih rest hr i (by simpa using hi)
     simpa using this fs.toList pl hpl i (by simpa using hf)
theorem PR_array {s:Nat}:∀ (l:List (Nat × Operand)),PR (fun i=>some (i*s,s)) l (l.map fun p=>(p.1*s,s,p.2))
 |[]=>trivial
 |(_,_) :: l=>⟨rfl,rfl,PR_array l⟩
theorem PR_partOff {s:Nat}:∀ (l:List (Nat × Operand)),PR (fun i=>some (i*s,s)) l (partOff s l)
 |[]=>trivial
 |(_,_) :: l=>⟨rfl,rfl,PR_partOff l⟩
theorem sndOps_partOff {s:Nat}:∀ (l:List (Nat × Operand)),sndOps (partOff s l)=sndOps2 l
 |[]=>rfl
 |(_,_) :: l=>by simp[partOff,sndOps,sndOps2,sndOps_partOff l]
theorem aBuild_some {zero:List Value}{ps:List (Nat × Nat × Operand)}{vs:List Value}{r:Res} (h:aBuild zero ps vs=some r):∃ cs,fillAt zero ps vs=some cs ∧ rv (.agg ⟨cs⟩)=some r:=by
 unfold aBuild at h
 split at h
 ·rename_i cs hcs
  rw[normL_eq]at h
  exact⟨cs,hcs,h⟩
 ·cases h
theorem build_runs {P:Program}{ρ:Rn}{g:G}{w:World}{n t:Nat}{zero:List Value}{parts:Array (Nat × Operand)}{ps:List (Nat × Nat × Operand)}{vs:List Value}{r:Res}{e:Operand → Value}
  (hz:zeroCells P t=some zero)
  (hc : (∃ fs,P.underlying t=some (.struct fs) ∧ (∀ f∈fs.toList,(sizeT P f.type).isSome=true) ∧ parts.toList.mapM (fun p=>match fs[p.1]? with
      |some f=>(sizeT P f.type).map fun s=>(f.offset,s,p.2)
      |none=>none)=some ps) ∨ ∃ len el s,P.underlying t=some (.array len el) ∧ sizeT P el=some s ∧ ps=parts.toList.map fun p=>(p.1*s,s,p.2))
  (ha:aBuild zero ps vs=some r) (hv:VL ρ vs ((sndOps ps).map e)) (hr:RelH P ρ g w) :
  Runs P (vS (Instr.build t (parts.map fun (i,x)=>(i,e x)))) ρ g w n r:=by
 obtain⟨i,Z,h1,h2,h3,h4,h5⟩:=zeroCells_some hz
 obtain⟨cs,hcs,hrv⟩:=aBuild_some ha
 have hZ:VL ρ zero Z.cells.toList:=by rw[h3];exact VL.self h4
 have hparts:(parts.map fun (i,x)=>(i,e x)).toList=parts.toList.map fun p=>(p.1,e p.2):=by simp
 rcases hc with⟨fs,hu,hall,hm⟩|⟨len,el,s,hu,hs,rfl⟩
 ·have hpl:∃ pl,fs.toList.mapM (fun f=>(P.info? f.type).map fun i=>(f.offset,i.size))=some pl:=by
   have:∀ (fl:List Field),(∀ f∈fl,(sizeT P f.type).isSome=true) → ∃ pl,fl.mapM (fun f=>(P.info? f.type).map fun i=>(f.offset,i.size))=some pl:=by
    intro fl
    induction fl with
    |nil=>exact fun _=>⟨[],rfl⟩
    |cons f fl ih =>
     intro h
     obtain⟨pl,hpl⟩:=ih fun f hf=>h f (by simp[hf])
     have h0:=h f (by simp)
     cases hi:P.info? f.type with
     |none=>simp[sizeT,hi]at h0
     |some i=>exact⟨(f.offset,i.size) :: pl,by simp[List.mapM_cons,hi,hpl]⟩
   exact this _ hall
  obtain⟨pl,hpl⟩:=hpl
  obtain⟨R,hR,hV⟩:=fill_VL parts.toList ps vs zero Z.cells cs (PR_struct hm hpl) hv hZ hcs
  refine Runs.pureS hr (run_build w t _ R ?_) ⟨_,hrv⟩ (VL.agg hV)
  rw[hparts]
  simp only[Program.built,h1,hu,h2,hpl]
  exact hR
 ·obtain⟨R,hR,hV⟩:=fill_VL parts.toList _ vs zero Z.cells cs (PR_array parts.toList) hv hZ hcs
  refine Runs.pureS hr (run_build w t _ R ?_) ⟨_,hrv⟩ (VL.agg hV)
  unfold sizeT at hs
  cases hie:P.info? el with
  |none=>simp[hie]at hs
  |some ie =>
   simp[hie]at hs
   subst hs
   rw[hparts]
   simp only[Program.built,h1,hu,h2,hie]
   exact hR
end Go.X
