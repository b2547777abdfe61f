import Derived.Test.YtkghggngmpmigaaD06
set_option linter.all false
namespace Go.X
open Go
theorem zero_self {ρ:Rn}{z:Value} (h:(vcells z).all okc1=true):V ρ z z:=by
 cases z with
 |agg cs=>exact VL.agg (VL.self h)
 |_=>exact okc1_self (by simpa [vcells]using h)
theorem keq_eq {d:TypeDesc}{q k:Value} (hq:keyOf d q=true) (hk:keyOf d k=true):keq q k=true ↔ q=k:=by
 unfold keyOf at hq hk
 split at hq
 ·rename_i k1 k2 n
  split at hk
  ·rename_i j1 j2 m e1
   cases e1
   simp at hq hk
   subst hq hk
   simp[keq]
  ·rename_i e1;cases e1
  ·rename_i e1;cases e1
  ·cases hk
 ·rename_i s
  split at hk
  ·rename_i e1;cases e1
  ·rename_i s' e1
   simp only[keq,Value.string.injEq]
   rw[beq_toListBytes,ByteArray.toList_eq,ByteArray.toList_eq]
   obtain⟨⟨x⟩⟩:=s
   obtain⟨⟨y⟩⟩:=s'
   simp
  ·rename_i e1;cases e1
  ·cases hk
 ·rename_i b
  split at hk
  ·rename_i e1;cases e1
  ·rename_i e1;cases e1
  ·simp[keq]
  ·cases hk
 ·cases hq
theorem sameNow_eq {d:TypeDesc}{q k:Value} (hq:keyOf d q=true) (hk:keyOf d k=true):Instr.sameNow d q k=some (keq q k):=by
 unfold keyOf at hq hk
 split at hq
 ·split at hk
  ·rename_i e1
   cases e1
   simp at hq hk
   subst hq hk
   simp[Instr.sameNow,keq]
  ·rename_i e1;cases e1
  ·rename_i e1;cases e1
  ·cases hk
 ·split at hk
  ·rename_i e1;cases e1
  ·simp[Instr.sameNow,keq]
  ·rename_i e1;cases e1
  ·cases hk
 ·split at hk
  ·rename_i e1;cases e1
  ·rename_i e1;cases e1
  ·simp[Instr.sameNow,keq]
  ·cases hk
 ·cases hq
theorem findNow_none {d:TypeDesc}{q:Value} (hq:keyOf d q=true):∀ (es:List MapEntry) (i:Nat),(∀ e∈es,keyOf d e.key=true)->es.find? (fun e=>keq q e.key)=none ->
  Instr.findNow d q es i=some none
 |[],_,_,_=>rfl
 |e :: es,i,hk,hf=>by
  simp only[List.find?_cons]at hf
  cases hb:keq q e.key with
  |true=>simp[hb]at hf
  |false =>
   simp only[hb]at hf
   simp only[Instr.findNow,sameNow_eq hq (hk e (by simp)),hb]
   exact findNow_none hq es (i+1) (fun x hx=>hk x (by simp[hx])) hf
theorem findNow_some {d:TypeDesc}{q:Value} (hq:keyOf d q=true):∀ (es:List MapEntry) (i:Nat) (e0:MapEntry),(∀ e∈es,keyOf d e.key=true)->es.find? (fun e=>keq q e.key)=some e0 ->
  ∃ j,es[j]?=some e0/\Instr.findNow d q es i=some (some (i+j,e0.val))/\∀ k,k<j->∀ e,es[k]?=some e->keq q e.key=false
 |[],_,_,_,hf=>by simp at hf
 |e :: es,i,e0,hk,hf=>by
  simp only[List.find?_cons]at hf
  cases hb:keq q e.key with
  |true =>
   simp only[hb,Option.some.injEq]at hf
   subst hf
   exact⟨0,rfl,by simp[Instr.findNow,sameNow_eq hq (hk e (by simp)),hb],fun k hk=>by omega⟩
  |false =>
   simp only[hb]at hf
   obtain⟨j,h1,h2,h3⟩:=findNow_some hq es (i+1) e0 (fun x hx=>hk x (by simp[hx])) hf
   refine⟨j+1,by simpa using h1,?_,fun k hkj x hx=>?_⟩
   ·simp only[Instr.findNow,sameNow_eq hq (hk e (by simp)),hb,h2]
    rw[show i+1+j=i+(j+1) by omega]
   ·cases k with
    |zero=>simp at hx;subst hx;exact hb
    |succ k=>exact h3 k (by omega) x (by simpa using hx)
theorem checkKey_run {P:Program}{w:World}{kt:TypeId}{d:TypeDesc}{q:Value}{b:Bool} (hd:P.underlying kt=some d) (hq:keyOf d q=true):(Instr.checkKey b 10000 kt q).run P w=.ok () w:=by
 unfold keyOf at hq
 have key:∀ D,(Instr.checkKey b (D+1) kt q).run P w=.ok () w:=by
  intro D
  split at hq<;>first|(cases hq;done)|simp[Instr.checkKey,run_underlying hd]
 exact key 9999
theorem stamps_nil:Stamps #[] 0:=⟨fun e h=>by simp at h,by simp,by simp⟩
theorem stamps_push {es:Array MapEntry}{clock:Nat}{d e:Value} (h:Stamps es clock) (hk:∀ x∈es.toList,x.key≠d):Stamps (es.push { key:=d,val:=e,born:=clock }) (clock+1):=by
 refine⟨fun x hx=>?_,?_,?_⟩
 ·simp at hx
  rcases hx with hx|rfl
  ·have:=h.1 x (by simpa using hx);omega
  ·show clock<clock+1;omega
 ·simp only[Array.toList_push,List.map_append,List.map_cons,List.map_nil]
  refine List.nodup_append.2 ⟨h.2.1,by simp,?_⟩
  intro a ha b hb
  simp at hb
  subst hb
  obtain⟨x,hx,rfl⟩:=List.mem_map.1 ha
  have:=h.1 x hx;omega
 ·simp only[Array.toList_push,List.map_append,List.map_cons,List.map_nil]
  refine List.nodup_append.2 ⟨h.2.2,by simp,?_⟩
  intro a ha b hb
  simp at hb
  subst hb
  obtain⟨x,hx,rfl⟩:=List.mem_map.1 ha
  exact hk x hx
theorem stamps_modify {es:Array MapEntry}{clock j:Nat}{d e:Value}{e0:MapEntry} (h:Stamps es clock) (hj:es[j]?=some e0) (hd:e0.key=d):Stamps (es.modify j fun x=>{ x with key:=d,val:=e }) clock:=by
 have hm:(es.modify j fun x=>{ x with key:=d,val:=e }).toList.map (·.born)=es.toList.map (·.born):=by
  apply List.ext_getElem?
  intro i
  simp only[List.getElem?_map,Array.getElem?_toList,Array.getElem?_modify]
  split
  ·cases es[i]?<;>rfl
  ·rfl
 have hm2:(es.modify j fun x=>{ x with key:=d,val:=e }).toList.map (·.key)=es.toList.map (·.key):=by
  apply List.ext_getElem?
  intro i
  simp only[List.getElem?_map,Array.getElem?_toList,Array.getElem?_modify]
  split
  ·rename_i hji
   subst hji
   rw[hj]
   simp[hd]
  ·rfl
 refine⟨fun x hx=>?_,by rw[hm];exact h.2.1,by rw[hm2];exact h.2.2⟩
 have:x.born∈es.toList.map (·.born):=by rw[<- hm];exact List.mem_map.2 ⟨x,hx,rfl⟩
 obtain⟨y,hy,he⟩:=List.mem_map.1 this
 rw[<- he];exact h.1 y hy
theorem mkmap_runs {P:Program}{ρ:Rn}{g:G}{w:World}{n t kt et:Nat}{z:Value}{kd:TypeDesc} (h1:P.underlying kt=some kd) (h2:(P.info? et).bind (·.zero)=some z) (h3:(vcells z).all okc1=true)
  (hr:RelH P ρ g w) (hn:ρ n=none) :
  Runs P (vS (Instr.makeMap t none)) ρ g w n ⟨.map (some n),[(n,some (.map kt et 0 (fun _=>false) (fun _=>z)))],1,true⟩:=by
 refine⟨_,w.alloc (.map #[] 0),Good.fresh (l:=⟨⟨w.heap.size,0,none⟩,0,0⟩) hr hn rfl rfl rfl (by simp) (fun k hk=>heap_push_old w _ k hk) (Nat.le_refl _) ?_,.inl ⟨.map (some w.heap.size),run_vS ?_,?_⟩⟩
 ·refine⟨kd,z,#[],0,h1,h2,rfl,rfl,heap_alloc_new _ _,⟨rfl,stamps_nil⟩,by simp,fun q _=>?_⟩
  simp
  exact zero_self h3
 ·simp[Instr.makeMap]
 ·exact V.map (l:=⟨⟨w.heap.size,0,none⟩,0,0⟩) (rset_same _ _ _)
theorem zeroValue_run {P:Program}{w:World}{et:TypeId}{z:Value} (h:(P.info? et).bind (·.zero)=some z):(zeroValue et).run P w=.ok z w:=by
 cases hi:P.info? et with
 |none=>simp[hi]at h
 |some i=>simp[hi]at h;simp[zeroValue,typeInfo,hi,h]
theorem run_findKey {P:Program}{w:World}{kt:TypeId}{d:TypeDesc}{q:Value}{es:List MapEntry}{r:Option (Nat × Value)} (hd:P.underlying kt=some d) (h:Instr.findNow d q es 0=some r) :
  (Instr.findKey kt q es).run P w=.ok r w:=by
 simp[Instr.findKey,run_underlying hd,h]
theorem run_getMap {P:Program}{w:World}{b:Nat}{es:Array MapEntry}{clock:Nat} (h:w.heap[b]?=some (.map es clock)):(getObj b).run P w=.ok (.map es clock) w:=by
 simp[getObj,Sem.run,h]
theorem lookup_runs {P:Program}{ρ:Rn}{g:G}{w:World}{n t kt et:Nat}{kd:TypeDesc}{z:Value}{ok:Bool}{vs:List Value}{bs:List Blk}{c d:Value}{r:Res}
  (hu:P.underlying t=some (.map kt et)) (h1:P.underlying kt=some kd) (h2:(P.info? et).bind (·.zero)=some z) (h3:(vcells z).all okc1=true)
  (ha:aLookup kt et kd z ok vs bs=some r) (hok:r.ok=true) (hv:VL ρ vs [c,d]) (hr:RelH P ρ g w) (hb:GL g (mapId vs) bs):Runs P (vS (Instr.lookup t c d ok)) ρ g w n r:=by
 have keyself:∀ {q x:Value},keyOf kd q=true->V ρ q x->x=q:=by
  intro q x hq hx
  unfold keyOf at hq
  split at hq
  ·exact v_int hx
  ·exact v_string hx
  ·exact v_bool hx
  ·cases hq
 unfold aLookup at ha
 split at ha
 ·rename_i id k kt' et' m has val
  simp only[mapId,GL,and_true]at hb
  obtain⟨hm,ha2⟩:=must_some ha
  clear ha
  have ha:=ha2
  clear ha2
  simp only[Bool.and_eq_true]at hm
  have e1:=Nat.eq_of_beq_eq_true hm.1
  have e2:=Nat.eq_of_beq_eq_true hm.2
  subst e1 e2
  have ha':=ha
  simp only[rv,Option.some.injEq]at ha';subst ha'
  obtain⟨hv1,hv2,_⟩:=hv
  have hk:keyOf kd k=true:=hok
  have:=keyself hk hv2;subst this
  obtain⟨l,hl,rfl⟩:=v_map hv1
  obtain⟨l',hl',hh⟩:=hr.holds _ _ hb
  rw[hl]at hl';cases hl'
  obtain⟨d',z',es,clock,q1,q2,q3,q3',q4,q5,q6,q7⟩:=hh
  rw[h1]at q1;cases q1
  rw[h2]at q2;cases q2
  have hq7:=q7 d hk
  have fin:∀ (v:Value) (b:Bool),has d=b->V ρ (val d) v->(Instr.lookup t (.map (some l.addr.block)) d ok).run P w=.ok (if ok then .tuple #[v,.bool b]else v) w ->
    Runs P (vS (Instr.lookup t (.map (some l.addr.block)) d ok)) ρ g w n ⟨cond ok (.tuple ⟨[val d,.bool (has d)]⟩) (val d),[],0,keyOf kd d⟩:=by
   intro v b hb' hv' hrun
   refine Runs.pureS hr hrun ⟨_,rfl⟩ ?_
   cases ok
   ·exact hv'
   ·simp only[cond_true,if_true]
    exact VL.tuple ⟨hv',by rw[hb'];exact⟨.bool _,trivial⟩⟩
  cases hf:es.toList.find? (fun e=>keq d e.key)with
  |none =>
   rw[hf]at hq7
   have hn:=findNow_none hk es.toList 0 q6 hf
   exact fin z false hq7.1 hq7.2 (by simp[Instr.lookup,run_underlying hu,run_getMap q4,checkKey_run h1 hk,run_findKey h1 hn,zeroValue_run h2])
  |some e0 =>
   rw[hf]at hq7
   obtain⟨j,_,hn,_⟩:=findNow_some hk es.toList 0 e0 q6 hf
   exact fin e0.val true hq7.1 hq7.2 (by simp[Instr.lookup,run_underlying hu,run_getMap q4,checkKey_run h1 hk,run_findKey h1 hn])
 ·rename_i k
  have ha':=ha
  simp only[rv,Option.some.injEq]at ha';subst ha'
  obtain⟨hv1,hv2,_⟩:=hv
  have hk:keyOf kd k=true:=hok
  have:=keyself hk hv2;subst this
  have:=v_mnil hv1;subst this
  have hn:=findNow_none hk [] 0 (by simp) rfl
  refine Runs.pureS (c:=if ok then .tuple #[z,.bool false]else z) hr (by simp[Instr.lookup,run_underlying hu,checkKey_run h1 hk,run_findKey h1 hn,zeroValue_run h2]) ⟨_,ha⟩ ?_
  cases ok
  ·exact zero_self h3
  ·exact VL.tuple ⟨zero_self h3,.bool _,trivial⟩
 ·cases ha
theorem sameBits_self {d:TypeDesc}{k:Value} (hk:keyOf d k=true):Instr.sameBits 10000 k k=true:=by
 unfold keyOf at hk
 split at hk
 ·simp[Instr.sameBits]
 ·rename_i s;simp only[Instr.sameBits];rw[beq_toListBytes];simp
 ·simp[Instr.sameBits]
 ·cases hk
theorem mapupd_runs {P:Program}{ρ:Rn}{g:G}{w:World}{n t kt et:Nat}{kd:TypeDesc}{vs:List Value}{bs:List Blk}{c d e:Value}{r:Res}
  (hu:P.underlying t=some (.map kt et)) (h1:P.underlying kt=some kd)
  (ha:aMapupd kt et kd vs bs=some r) (hok:r.ok=true) (hv:VL ρ vs [c,d,e]) (hr:RelH P ρ g w) (hb:GL g (mapId vs) bs):Runs P (uS (Instr.mapUpdate t c d e)) ρ g w n r:=by
 have keyself:∀ {q x:Value},keyOf kd q=true->V ρ q x->x=q:=by
  intro q x hq hx
  unfold keyOf at hq
  split at hq
  ·exact v_int hx
  ·exact v_string hx
  ·exact v_bool hx
  ·cases hq
 unfold aMapupd at ha
 split at ha
 ·rename_i id k v kt' et' m has val
  simp only[mapId,GL,and_true]at hb
  obtain⟨hm,ha2⟩:=must_some ha
  clear ha
  have ha:=ha2
  clear ha2
  simp only[Bool.and_eq_true]at hm
  have e1:=Nat.eq_of_beq_eq_true hm.1
  have e2:=Nat.eq_of_beq_eq_true hm.2
  subst e1 e2
  simp only[Option.some.injEq]at ha;subst ha
  obtain⟨hv1,hv2,hv3,_⟩:=hv
  have hk:keyOf kd k=true:=hok
  have:=keyself hk hv2;subst this
  obtain⟨l,hl,rfl⟩:=v_map hv1
  obtain⟨l',hl',hh⟩:=hr.holds _ _ hb
  rw[hl]at hl';cases hl'
  obtain⟨d',z,es,clock,q1,q2,q3,q3',q4,q5,q6,q7⟩:=hh
  rw[h1]at q1;cases q1
  have hq7:=q7 d hk
  have hlt:l.addr.block<w.heap.size:=by
   rcases Nat.lt_or_ge l.addr.block w.heap.size with h|h
   ·exact h
   ·simp[Array.getElem?_eq_none h]at q4
  have fin:∀ (es':Array MapEntry) (cl:Nat),(Instr.mapUpdate t (.map (some l.addr.block)) d e).run P w=.ok () { w with heap:=w.heap.setIfInBounds l.addr.block (.map es' cl) } ->
    (es'.size=cond (has d) m (m+1)/\Stamps es' cl)->(∀ x∈es'.toList,keyOf kd x.key=true) ->
    (∀ q,keyOf kd q=true->es'.toList.find? (fun x=>keq q x.key)=if keq q d=true then some { ((es'.toList.find? (fun x=>keq q x.key)).getD ⟨d,e,0⟩)with val:=e }else es.toList.find? (fun x=>keq q x.key)) ->
    Runs P (uS (Instr.mapUpdate t (.map (some l.addr.block)) d e)) ρ g w n
     ⟨undefd,[(id,some (.map kt et (cond (has d) m (m+1)) (fun q=>keq q d||has q) (fun q=>cond (keq q d) v (val q))))],0,keyOf kd d⟩:=by
   intro es' cl hrun hsz hkeys hfind
   refine⟨ρ,{ w with heap:=w.heap.setIfInBounds l.addr.block (.map es' cl) },Good.turn hr hb rfl hl rfl rfl rfl (by simp) (fun k hk=>?_) ?_,.inr ⟨run_uS hrun,rfl⟩⟩
   ·show(w.heap.setIfInBounds l.addr.block _)[k]?=_
    rw[Array.getElem?_setIfInBounds_ne (Ne.symm hk)]
   ·refine⟨kd,z,es',cl,h1,q2,q3,q3',?_,hsz,hkeys,fun q hq=>?_⟩
    ·show(w.heap.setIfInBounds l.addr.block _)[l.addr.block]?=_
     simp[hlt]
    ·have:=hfind q hq
     by_cases hqd:keq q d=true
     ·rw[if_pos hqd]at this
      rw[this]
      simp only[hqd,Bool.true_or,cond_true,true_and]
      exact hv3
     ·rw[if_neg hqd]at this
      rw[this]
      have h0:keq q d=false:=by simpa using hqd
      simp only[h0,Bool.false_or,cond_false]
      exact q7 q hq
  cases hf:es.toList.find? (fun x=>keq d x.key)with
  |none =>
   rw[hf]at hq7
   have hn:=findNow_none hk es.toList 0 q6 hf
   refine fin (es.push { key:=d,val:=e,born:=clock }) (clock+1) ?_ ⟨by simp[hq7.1,q5.1],stamps_push q5.2 (fun x hx ex=>absurd ((keq_eq hk hk).2 rfl) (by have:=List.find?_eq_none.1 hf x hx;rwa [ex]at this))⟩ ?_ ?_
   ·simp[Instr.mapUpdate,run_underlying hu,run_getMap q4,checkKey_run h1 hk,run_findKey h1 hn,setObj,Sem.run,q4]
   ·intro x hx
    simp at hx
    rcases hx with hx|rfl
    ·exact q6 x (by simpa using hx)
    ·exact hk
   ·intro q hq
    simp only[Array.toList_push,List.find?_append]
    by_cases hqd:keq q d=true
    ·rw[if_pos hqd]
     have:=(keq_eq hq hk).1 hqd
     subst this
     rw[hf]
     simp[hqd]
    ·rw[if_neg hqd]
     have h0:keq q d=false:=by simpa using hqd
     simp[h0]
  |some e0 =>
   rw[hf]at hq7
   obtain⟨j,hj,hn,hlow⟩:=findNow_some hk es.toList 0 e0 q6 hf
   have hj':es[j]?=some e0:=by simpa using hj
   have he0:keq d e0.key=true:=by
    have:=List.find?_some hf
    simpa using this
   have hkey:e0.key=d:=((keq_eq hk (q6 e0 (List.mem_of_find?_eq_some hf))).1 he0).symm
   have hjlt:j<es.size:=by
    rcases Nat.lt_or_ge j es.size with h|h
    ·exact h
    ·simp[Array.getElem?_eq_none h]at hj'
   refine fin (es.modify j fun x=>{ x with key:=d,val:=e }) clock ?_ ⟨by simp[hq7.1,q5.1],stamps_modify q5.2 hj' hkey⟩ ?_ ?_
   ·rw[Nat.zero_add]at hn
    simp[Instr.mapUpdate,run_underlying hu,run_getMap q4,checkKey_run h1 hk,run_findKey h1 hn,hj',Instr.keyThatStays,hkey,sameBits_self hk,setObj,Sem.run,q4]
   ·intro x hx
    rw[List.mem_iff_getElem?]at hx
    obtain⟨i,hi⟩:=hx
    simp only[Array.getElem?_toList,Array.getElem?_modify]at hi
    split at hi
    ·cases hx:es[i]? with
     |none=>simp[hx]at hi
     |some y=>simp[hx]at hi;subst hi;exact hk
    ·exact q6 x (List.mem_iff_getElem?.2 ⟨i,by simpa using hi⟩)
   ·intro q hq
    have hmod:(es.modify j fun x=>{ x with key:=d,val:=e }).toList=es.toList.modify j fun x=>{ x with key:=d,val:=e }:=by simp
    rw[hmod]
    have gen:∀ (l:List MapEntry) (j:Nat),l[j]?=some e0->(∀ k,k<j->∀ x,l[k]?=some x->keq d x.key=false) ->
      (l.modify j fun x=>{ x with key:=d,val:=e }).find? (fun x=>keq q x.key)=if keq q d=true then some { e0 with key:=d,val:=e }else l.find? (fun x=>keq q x.key):=by
     intro l
     induction l with
     |nil=>intro j hj;simp at hj
     |cons a l ih =>
      intro j hj hl
      cases j with
      |zero =>
       simp at hj;subst hj
       simp only[List.modify_zero_cons,List.find?_cons]
       by_cases hqd:keq q d=true
       ·simp[hqd]
       ·have h0:keq q d=false:=by simpa using hqd
        simp only[h0,Bool.false_eq_true,if_false]
        rw[hkey,h0]
      |succ j =>
       simp only[List.modify_succ_cons,List.find?_cons]
       have ha0:=hl 0 (by omega) a rfl
       have ihj:=ih j (by simpa using hj) (fun k hkj x hx=>hl (k+1) (by omega) x (by simpa using hx))
       by_cases hqd:keq q d=true
       ·have:=(keq_eq hq hk).1 hqd
        subst this
        rw[ha0]
        simpa using ihj
       ·rw[if_neg hqd]at ihj ⊢
        rw[ihj]
    rw[gen es.toList j hj hlow]
    by_cases hqd:keq q d=true
    ·simp[hqd]
    ·simp[hqd]
 ·cases ha
theorem lenM_runs {P:Program}{ρ:Rn}{g:G}{w:World}{n t ty kt et:Nat}{ts:List TypeId}{vs:List Value}{bs:List Blk}{c:Value}{r:Res} (hu:P.underlying t=some (.map kt et))
  (ha:aLenM vs bs=some r) (hv:VL ρ vs [c]) (hr:RelH P ρ g w) (hb:GL g (mapId vs) bs):Runs P (vS (Builtin.len_ ⟨t :: ts⟩ ty #[c])) ρ g w n r:=by
 unfold aLenM at ha
 split at ha
 ·have:=v_mnil hv.1;subst this
  exact Runs.pureS hr (by simp[Builtin.len_,run_underlying hu,goInt]) ⟨_,ha⟩ (.int _ _)
 ·rename_i id kt' et' m has val
  simp only[mapId,GL,and_true]at hb
  obtain⟨l,hl,rfl⟩:=v_map hv.1
  obtain⟨l',hl',hh⟩:=hr.holds _ _ hb
  rw[hl]at hl';cases hl'
  obtain⟨d',z,es,clock,q1,q2,q3,q3',q4,q5,q6,q7⟩:=hh
  refine Runs.pureS (c:=.int .i64 es.size) hr ?_ ⟨_,ha⟩ (by rw[q5.1];exact .int _ _)
  simp[Builtin.len_,run_underlying hu,goInt,run_getMap q4]
 ·cases ha
end Go.X
namespace Go.X
open Go
theorem Fr.mono {O O':Nat->Prop} {w w':World} (h:Fr O w w') (ho:∀ k,O k->O' k):Fr O' w w' :=
 ⟨h.os,h.tape,h.output,h.size,fun k hk hn=>h.block k hk fun hx=>hn (ho k hx)⟩
theorem mks_runs {P:Program}{ρ:Rn}{g:G}{w:World}{n t e bytes:Nat}{zero:List Value}{i:TypeInfo}{vs:List Value}{c d:Value}{r:Res}
  (hu:P.underlying t=some (.slice e)) (hz:zeroCells P e=some zero) (hi:P.info? e=some i) (hby:i.bytes=bytes) (hpos:0<zero.length) (ha:aMks zero bytes n vs=some r) (hok:r.ok=true)
  (hv:VL ρ vs [c,d]) (hr:RelH P ρ g w) (hn:ρ n=none):Runs P (vS (Instr.makeSlice t c d)) ρ g w n r:=by
 obtain⟨i',Z,h1,h2,h3,h4,h5⟩:=zeroCells_some hz
 rw[hi]at h1;cases h1
 unfold aMks at ha
 split at ha
 ·rename_i k l k' cc
  simp only[Option.some.injEq]at ha;subst ha
  simp only[Bool.and_eq_true,decide_eq_true_eq,maxGrow]at hok
  obtain⟨⟨q1,q2⟩,q3⟩:=hok
  obtain⟨hv1,hv2,_⟩:=hv
  have:=v_int hv1;subst this
  have:=v_int hv2;subst this
  subst hby
  have hc0:0<=cc:=by omega
  obtain⟨m,rfl⟩:=Int.eq_ofNat_of_zero_le hc0
  have hm:m*(i.bytes+zero.length+1)<=1099511627776:=by
   have:=of_decide_eq_true q3
   exact_mod_cast this
  have hm1:m*i.bytes<=m*(i.bytes+zero.length+1):=Nat.mul_le_mul_left m (by omega)
  have hm2:m*1<=m*(i.bytes+zero.length+1):=Nat.mul_le_mul_left m (by omega)
  have hmb:(i.bytes:Int)*(m:Int)<=281474976710656:=by
   have:i.bytes*m<=281474976710656:=by rw[Nat.mul_comm];omega
   rw[<- Int.natCast_mul];exact Int.ofNat_le.2 this
  have hrun:=run_make (P:=P) w t e i Z hu hi h2 k k' l (m:Int) q1 q2 hmb (by omega)
  have hZs:Z.cells.size=zero.length:=by rw[<- h3];simp
  have hsz:((madeCells Z.cells ((m:Int).toNat*i.size)).size)=m*zero.length:=by rw[size_madeCells,h5];rfl
  refine⟨_,_,Good.rows (w':=w.alloc (.cells (madeCells Z.cells ((m:Int).toNat*i.size)) e)) (t:=e) (lo:=0) (hi:=0) (ex:=0) hr hn rfl rfl rfl (World.size_alloc _ _) (fun k hk=>heap_push_old w _ k hk)
   (heap_alloc_new _ _) (fun i _=>by omega) (fun _=>rfl) (by rw[hsz,Nat.add_zero];exact Nat.le_refl _) (fun j hj=>⟨rfl,fun o v ho=>?_⟩),.inl ⟨_,run_vS hrun,v_newrows (ex:=0)⟩⟩
  have hlt:=lt_of_get ho
  have hj:j<m:=by simpa using hj
  have hmul:j*zero.length+zero.length<=m*zero.length:=by
   have:=Nat.mul_le_mul_right zero.length (show j+1<=m by omega)
   rwa [Nat.succ_mul]at this
  have hmod:(j*zero.length+o) % Z.cells.size=o:=by
   rw[hZs,Nat.mul_comm,Nat.mul_add_mod,Nat.mod_eq_of_lt hlt]
  have hoz:Z.cells[o]?=some v:=by rw[<- Array.getElem?_toList,h3];exact ho
  have hos:o<Z.cells.size:=by omega
  refine⟨v,?_,okc1_one (List.all_eq_true.1 h4 v (List.mem_of_getElem? ho)),okc1_self (List.all_eq_true.1 h4 v (List.mem_of_getElem? ho))⟩
  unfold madeCells
  have hb:j*zero.length+o<m*i.size:=by rw[<- h5];omega
  have hx:(Array.range ((m:Int).toNat*i.size))[j*zero.length+o]?=some (j*zero.length+o):=by
   simp[hb]
  rw[Array.getElem?_map,hx,Option.map_some,hmod,getElem!_pos Z.cells o hos]
  rw[Array.getElem?_eq_getElem hos]at hoz
  exact hoz
 ·cases ha
theorem s2b_runs {P:Program}{ρ:Rn}{g:G}{w:World}{n s d e:Nat}{vs:List Value}{c:Value}{r:Res} (h1:P.underlying s=some .string) (h2:P.underlying d=some (.slice e)) (h3:P.underlying e=some (.int .u8))
  (ha:aS2b n vs=some r) (hv:VL ρ vs [c]) (hr:RelH P ρ g w) (hn:ρ n=none):Runs P (vS (convert s d c)) ρ g w n r:=by
 unfold aS2b at ha
 split at ha
 ·rename_i str
  simp only[Option.some.injEq]at ha;subst ha
  have:=v_string hv.1;subst this
  have hrun:=run_bytes_of_string (P:=P) w s d e str h1 h2 h3
  have hge:=grownCap_ge w str.size 0 e
  have hsize:(bytesRow str (grownCap w str.size 0 e)).size=grownCap w str.size 0 e:=by
   simp[bytesRow];omega
  refine⟨_,_,Good.rows (w':=w.drew.alloc (.cells (bytesRow str (grownCap w str.size 0 e)) e ((bytesRow str (grownCap w str.size 0 e)).size,(bytesRow str (grownCap w str.size 0 e)).size+1)))
   (ex:=grownCap w str.size 0 e-str.size) hr hn rfl rfl rfl (by simp) (fun k hk=>heap_push_old w.drew _ k hk) (heap_alloc_new w.drew _) (fun i hi=>by rw[hsize];omega) (fun h=>by cases h) (by rw[hsize];omega)
   (fun j hj=>⟨rfl,fun o v ho=>?_⟩),.inl ⟨_,run_vS hrun,?_⟩⟩
  ·have hlt:=lt_of_get ho
   simp at hlt
   subst hlt
   simp at ho
   subst ho
   have hj':j<str.data.size:=hj
   refine⟨_,by rw[Nat.mul_one,Nat.add_zero];exact bytesRow_at str _ j hj',rfl,?_⟩
   rw[byteAt_eq hj]
   exact .int _ _
  ·have:=v_newrows (ρ:=ρ) (n:=n) (a:=w.heap.size) (st:=1) (ex:=grownCap w str.size 0 e-str.size) (len:=str.size) (cap:=str.size)
   rwa [show str.size+(grownCap w str.size 0 e-str.size)=grownCap w str.size 0 e by omega]at this
 ·cases ha
def SrcAt (ρ:Rn) (size k:Nat) (f:Nat->List Value) (N:Array Value):Prop :=
 N.size=k*size/\∀ j,j<k->(f j).length=size/\∀ o v,(f j)[o]?=some v->∃ u,N[j*size+o]?=some u/\CV ρ v u
theorem run_loadCells_rows {P:Program}{ρ:Rn}{w:World}{a:Addr}{size k:Nat}{f:Nat->List Value} (hs:0<size)
  (h:∀ j,j<k->(f j).length=size/\∀ o v,(f j)[o]?=some v->∃ u,w.cell? (a.add (j*size+o))=some u/\CV ρ v u) :
  ∃ N,(loadCells a (k*size)).run P w=.ok N w/\SrcAt ρ size k f N:=by
 have hcell:∀ i,i<k*size->(w.cell? (a.add i)).isSome=true:=by
  intro i hi
  have hj:i / size<k:=by
   rw[Nat.div_lt_iff_lt_mul hs];exact hi
  have hm:i % size<size:=Nat.mod_lt _ hs
  obtain⟨hl,hh⟩:=h (i / size) hj
  obtain⟨u,hu,_⟩:=hh (i % size) ((f (i / size))[i % size]'(by omega)) (by simp)
  have:i / size*size+i % size=i:=by rw[Nat.mul_comm];exact Nat.div_add_mod i size
  rw[this]at hu
  simp[hu]
 have hrun:=run_loadCells (P:=P) (w:=w) a (k*size) (fun j=>(w.cell? (a.add j)).getD undef) (fun j hj=>by
  have:=hcell j hj
  cases hx:w.cell? (a.add j)with
  |none=>simp[hx]at this
  |some u=>rfl)
 refine⟨_,hrun,by simp,fun j hj=>⟨(h j hj).1,fun o v ho=>?_⟩⟩
 obtain⟨u,hu,hvu⟩:=(h j hj).2 o v ho
 have hlt:=lt_of_get ho
 rw[(h j hj).1]at hlt
 have hmul:j*size+size<=k*size:=by
  have:=Nat.mul_le_mul_right size (show j+1<=k by omega)
  rwa [Nat.succ_mul]at this
 refine⟨u,?_,hvu⟩
 have hlt2:j*size+o<k*size:=by omega
 simp[hlt2,hu]
theorem rows_cell {P:Program}{ρ:Rn}{w:World}{l:L}{m st:Nat}{f:Nat->List Value}{o ro:Bool} (hh:Holds P ρ w l (.rows m st f o ro)){idx k:Nat} (h:idx+k<=m) :
  ∀ j,j<k->(f (idx+j)).length=st/\∀ i v,(f (idx+j))[i]?=some v->∃ u,w.cell? ((l.addr.add (idx*l.stride)).add (j*st+i))=some u/\CV ρ v u:=by
 intro j hj
 obtain⟨h1,h2,h3,h4⟩:=hh
 obtain⟨e1,e2⟩:=h3 (idx+j) (by omega)
 refine⟨e1,fun i v hv=>?_⟩
 obtain⟨u,hu,hvu⟩:=e2 i v hv
 refine⟨u,?_,hvu⟩
 rw[addr_add_add,h1,<- Nat.add_assoc,<- Nat.add_mul]
 exact hu
theorem src_run {P:Program}{ρ:Rn}{g:G}{w:World}{size k:Nat}{x X:Value}{bs:List Blk}{f:Nat->List Value} (h:srcRows size x bs=some (k,f,true)) (hs:0<size) (hv:V ρ x X) (hr:RelH P ρ g w)
  (hb:GL g (sliceId x) bs):(Builtin.lenOf X).run P w=.ok k w/\∃ N,(Builtin.firstCells size k X).run P w=.ok N w/\SrcAt ρ size k f N:=by
 rw[srcRows_eq]at h
 unfold srcRows0 at h
 split at h
 ·simp only[Option.some.injEq,Prod.mk.injEq,and_true]at h
  obtain⟨rfl,rfl⟩:=h
  obtain⟨rfl,rfl,rfl⟩:=v_snil hv
  exact⟨by simp[Builtin.lenOf],#[],by simp[Builtin.firstCells],by simp[SrcAt]⟩
 ·rename_i s
  simp only[Option.some.injEq,Prod.mk.injEq]at h
  obtain⟨rfl,rfl,h1⟩:=h
  have:=Nat.eq_of_beq_eq_true h1;subst this
  have:=v_string hv;subst this
  refine⟨by simp[Builtin.lenOf],((s.extract 0 s.size).data.map fun b=>.int .u8 b.toNat),rfl,?_,fun j hj=>⟨rfl,fun o v ho=>?_⟩⟩
  ·simp
  ·have hlt:=lt_of_get ho
   simp at hlt
   subst hlt
   simp at ho
   subst ho
   refine⟨.int .u8 (s[j].toNat:Int),?_,rfl,by rw[byteAt_eq hj];exact .int _ _⟩
   have hj':j<s.data.size:=hj
   rw[Nat.mul_one,Nat.add_zero]
   have e0:s.extract 0 s.size=s:=by simp
   rw[e0,Array.getElem?_map,Array.getElem?_eq_getElem hj']
   rfl
 ·rename_i id idx len cap m st f' o ro
  simp only[Option.some.injEq,Prod.mk.injEq,Bool.and_eq_true]at h
  obtain⟨rfl,rfl,h1,h2⟩:=h
  have h1:=ble_le h1
  have h2:=Nat.eq_of_beq_eq_true h2
  simp only[sliceId,GL,and_true]at hb
  rcases v_slice hv with⟨l,hl,rfl⟩|⟨rfl,rfl,a,rfl⟩
  ·obtain⟨l',hl',hh⟩:=hr.holds _ _ hb
   rw[hl]at hl';cases hl'
   subst h2
   obtain⟨N,hN,hS⟩:=run_loadCells_rows (P:=P) (w:=w) (k:=len) hs (rows_cell hh h1)
   exact⟨by simp[Builtin.lenOf],N,by simpa [Builtin.firstCells]using hN,hS⟩
  ·exact⟨by simp[Builtin.lenOf],#[],by simp[Builtin.firstCells,loadCells,loadCellsFrom],by simp[SrcAt]⟩
 ·rename_i id fo len cap cs
  simp only[Option.some.injEq,Prod.mk.injEq]at h
  obtain⟨rfl,rfl,h1⟩:=h
  have h1:=ble_le h1
  simp only[sliceId,GL,and_true]at hb
  rcases v_slicea hv with⟨l,hl,rfl⟩|⟨rfl,rfl,a,rfl⟩
  ·obtain⟨l',hl',hh⟩:=hr.holds _ _ hb
   rw[hl]at hl';cases hl'
   obtain⟨⟨q1,_⟩,c,e,lo,hi,q2,q3,q4,q5⟩:=hh
   obtain⟨N,hN,hS⟩:=run_loadCells_rows (P:=P) (w:=w) (ρ:=ρ) (a:=l.addr.add (0*l.stride+fo)) (k:=len) (f:=fun j=>slab cs (fo+j*size) size) hs (fun j hj=>by
    have hmul:j*size+size<=len*size:=by
     have:=Nat.mul_le_mul_right size (show j+1<=len by omega)
     rwa [Nat.succ_mul]at this
    refine⟨slab_length (by omega),fun i v hi=>?_⟩
    obtain⟨u,hu,hvu⟩:=q5 _ v (slab_get hi)
    refine⟨u,?_,hvu⟩
    rw[addr_add_add,cell_in q2 q1,<- hu]
    congr 1;omega)
   exact⟨by simp[Builtin.lenOf],N,by simpa [Builtin.firstCells]using hN,hS⟩
  ·exact⟨by simp[Builtin.lenOf],#[],by simp[Builtin.firstCells,loadCells,loadCellsFrom],by simp[SrcAt]⟩
 ·rename_i id idx fo len cap m st f' o ro
  simp only[Option.some.injEq,Prod.mk.injEq,Bool.and_eq_true]at h
  obtain⟨rfl,rfl,h1,h2⟩:=h
  have h1:=blt_lt h1
  have h2:=ble_le h2
  simp only[sliceId,GL,and_true]at hb
  rcases v_slicea hv with⟨l,hl,rfl⟩|⟨rfl,rfl,a,rfl⟩
  ·obtain⟨l',hl',hh⟩:=hr.holds _ _ hb
   rw[hl]at hl';cases hl'
   obtain⟨q1,q2,q3,q4⟩:=hh
   obtain⟨e1,e2⟩:=q3 idx h1
   obtain⟨N,hN,hS⟩:=run_loadCells_rows (P:=P) (w:=w) (ρ:=ρ) (a:=l.addr.add (idx*l.stride+fo)) (k:=len) (f:=fun j=>slab (f' idx) (fo+j*size) size) hs (fun j hj=>by
    have hmul:j*size+size<=len*size:=by
     have:=Nat.mul_le_mul_right size (show j+1<=len by omega)
     rwa [Nat.succ_mul]at this
    refine⟨slab_length (by omega),fun i v hi=>?_⟩
    obtain⟨u,hu,hvu⟩:=e2 _ v (slab_get hi)
    refine⟨u,?_,hvu⟩
    rw[addr_add_add,q1,<- hu]
    congr 2;omega)
   exact⟨by simp[Builtin.lenOf],N,by simpa [Builtin.firstCells]using hN,hS⟩
  ·exact⟨by simp[Builtin.lenOf],#[],by simp[Builtin.firstCells,loadCells,loadCellsFrom],by simp[SrcAt]⟩
 ·cases h
theorem minmax_runs {P:Program}{ρ:Rn}{g:G}{w:World}{n:Nat}{ts:Array TypeId}{ty:TypeId}{isMax:Bool}{vs:List Value}{cs:Array Value}{r:Res} (ha:aMinmax isMax vs=some r) (hv:VL ρ vs cs.toList) (hr:RelH P ρ g w) :
  Runs P (vS (if isMax then Builtin.max_ ts ty cs else Builtin.min_ ts ty cs)) ρ g w n r:=by
 unfold aMinmax at ha
 split at ha
 ·rename_i k x vs'
  split at ha
  ·rename_i v hfold
   have gen:∀ (vs':List Value) (cs':List Value) (x:Int) (v:Value),VL ρ vs' cs'->foldMM isMax k x vs'=some v ->
     (cs'.foldlM (if isMax then Builtin.max2 else Builtin.min2) (.int k x):Sem Value).run P w=.ok v w/\V ρ v v:=by
    intro vs'
    induction vs' with
    |nil =>
     intro cs' x v hv hf
     cases cs' with
     |nil=>simp[foldMM]at hf;subst hf;simp;exact .int _ _
     |cons=>exact hv.elim
    |cons a vs' ih =>
     intro cs' x v hv hf
     cases cs' with
     |nil=>exact hv.elim
     |cons c cs' =>
      cases a<;>simp only[foldMM,reduceCtorEq]at hf
      rename_i k' y
      have:=v_int hv.1;subst this
      obtain⟨h1,h2⟩:=ih cs' _ v hv.2 hf
      refine⟨?_,h2⟩
      simp only[List.foldlM_cons,Sem.run_bind]
      cases isMax
      ·simp[Builtin.min2]at h1 ⊢;exact h1
      ·simp[Builtin.max2]at h1 ⊢;exact h1
   obtain⟨csl⟩:=cs
   cases csl with
   |nil=>exact hv.elim
   |cons c cs' =>
    have:=v_int hv.1;subst this
    obtain⟨h1,h2⟩:=gen vs' cs' x v hv.2 hfold
    refine Runs.pureS hr ?_ ⟨_,ha⟩ h2
    cases isMax
    ·simpa [Builtin.min_]using h1
    ·simpa [Builtin.max_]using h1
  ·cases ha
 ·cases ha
end Go.X
