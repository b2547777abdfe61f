import Derived.Test.YtghpjlmaamnnpaaDoorH06
import Derived.WideKeyArr
set_option linter.all false
namespace Go.X
open Go
theorem zero_self {ρ:Rn}{z:Value} (h:(vcells z).all okc1=true):V ρ z z:=by
 cases z with
 |agg cs=>exact VL.agg (VL.self h)
 |_=>exact okc1_self (by simpa [vcells]using h)
theorem keyOf_cases {d:TypeDesc}{q:Value} (h:keyOf d q=true):(∃ k n,d=.int k ∧ q=.int k n) ∨ (∃ s,d=.string ∧ q=.string s) ∨ (∃ b,d=.bool ∧ q=.bool b) ∨
  (∃ e a b,d=.array 2 e ∧ q=.agg ⟨[.int .u8 a,.int .u8 b]⟩ ∧ (0 ≤ a ∧ a<256) ∧ (0 ≤ b ∧ b<256)):=by
 unfold keyOf at h
 split at h
 ·rename_i k k' n
  simp at h
  subst h
  exact .inl ⟨_,_,rfl,rfl⟩
 ·exact .inr (.inl ⟨_,rfl,rfl⟩)
 ·exact .inr (.inr (.inl ⟨_,rfl,rfl⟩))
 ·simp only[Bool.and_eq_true,decide_eq_true_eq]at h
  exact .inr (.inr (.inr ⟨_,_,_,rfl,rfl,h.1,h.2⟩))
 ·cases h
theorem keq_eq {d:TypeDesc}{q k:Value} (hq:keyOf d q=true) (hk:keyOf d k=true):keq q k=true ↔ q=k:=by
 rcases keyOf_cases hq with⟨k1,n,rfl,rfl⟩|⟨s,rfl,rfl⟩|⟨b,rfl,rfl⟩|⟨e,a,b,rfl,rfl,_⟩
 ·rcases keyOf_cases hk with⟨k2,m,h,rfl⟩|⟨_,h,_⟩|⟨_,h,_⟩|⟨_,_,_,h,_⟩<;>cases h
  simp[keq]
 ·rcases keyOf_cases hk with⟨_,_,h,_⟩|⟨s',_,rfl⟩|⟨_,h,_⟩|⟨_,_,_,h,_⟩
  ·cases h
  ·simp only[keq,Value.string.injEq]
   rw[beq_toListBytes,ByteArray.toList_eq,ByteArray.toList_eq]
   obtain⟨⟨x⟩⟩:=s
   obtain⟨⟨y⟩⟩:=s'
   simp
  ·cases h
  ·cases h
 ·rcases keyOf_cases hk with⟨_,_,h,_⟩|⟨_,h,_⟩|⟨b',_,rfl⟩|⟨_,_,_,h,_⟩
  ·cases h
  ·cases h
  ·simp[keq]
  ·cases h
 ·rcases keyOf_cases hk with⟨_,_,h,_⟩|⟨_,h,_⟩|⟨_,h,_⟩|⟨_,c,d,_,rfl,_⟩
  ·cases h
  ·cases h
  ·cases h
  ·simp[keq]
theorem sameNow_eq {d:TypeDesc}{q k:Value} (hna:∀ n e,d≠.array n e) (hq:keyOf d q=true) (hk:keyOf d k=true):Instr.sameNow d q k=some (keq q k):=by
 rcases keyOf_cases hq with⟨k1,n,rfl,rfl⟩|⟨s,rfl,rfl⟩|⟨b,rfl,rfl⟩|⟨e,a,b,rfl,_⟩
 ·rcases keyOf_cases hk with⟨k2,m,h,rfl⟩|⟨_,h,_⟩|⟨_,h,_⟩|⟨_,_,_,h,_⟩<;>cases h
  simp[Instr.sameNow,keq]
 ·rcases keyOf_cases hk with⟨_,_,h,_⟩|⟨s',_,rfl⟩|⟨_,h,_⟩|⟨_,_,_,h,_⟩
  ·cases h
  ·simp[Instr.sameNow,keq]
  ·cases h
  ·cases h
 ·rcases keyOf_cases hk with⟨_,_,h,_⟩|⟨_,h,_⟩|⟨b',_,rfl⟩|⟨_,_,_,h,_⟩
  ·cases h
  ·cases h
  ·simp[Instr.sameNow,keq]
  ·cases h
 ·exact absurd rfl (hna _ _)
theorem findNow_none {d:TypeDesc}{q:Value} (hna:∀ n e,d≠.array n e) (hq:keyOf d q=true):∀ (es:List MapEntry) (i:Nat),(∀ e∈es,keyOf d e.key=true) → es.find? (fun e=>keq q e.key)=none →
  Instr.findNow d q es i=some none
 |[],_,_,_=>rfl
 |e :: es,i,hk,hf=>by
  simp only[List.find?_cons]at hf
  cases hb:keq q e.key with
  |true=>simp[hb]at hf
  |false =>
   simp only[hb]at hf
   simp only[Instr.findNow,sameNow_eq hna hq (hk e (by simp)),hb]
   exact findNow_none hna hq es (i+1) (fun x hx=>hk x (by simp[hx])) hf
theorem findNow_some {d:TypeDesc}{q:Value} (hna:∀ n e,d≠.array n e) (hq:keyOf d q=true):∀ (es:List MapEntry) (i:Nat) (e0:MapEntry),(∀ e∈es,keyOf d e.key=true) → es.find? (fun e=>keq q e.key)=some e0 →
  ∃ j,es[j]?=some e0 ∧ Instr.findNow d q es i=some (some (i+j,e0.val)) ∧ ∀ k,k<j → ∀ e,es[k]?=some e → keq q e.key=false
 |[],_,_,_,hf=>by simp at hf
 |e :: es,i,e0,hk,hf=>by
  simp only[List.find?_cons]at hf
  cases hb:keq q e.key with
  |true =>
   simp only[hb,Option.some.injEq]at hf
   subst hf
   exact⟨0,rfl,by simp[Instr.findNow,sameNow_eq hna hq (hk e (by simp)),hb],fun k hk=>by omega⟩
  |false =>
   simp only[hb]at hf
   obtain⟨j,h1,h2,h3⟩:=findNow_some hna hq es (i+1) e0 (fun x hx=>hk x (by simp[hx])) hf
   refine⟨j+1,by simpa using h1,?_,fun k hkj x hx=>?_⟩
   ·simp only[Instr.findNow,sameNow_eq hna hq (hk e (by simp)),hb,h2]
    rw[show i+1+j=i+(j+1) by omega]
   ·cases k with
    |zero=>simp at hx;subst hx;exact hb
    |succ k=>exact h3 k (by omega) x (by simpa using hx)
theorem run_findKey {P:Program}{w:World}{kt:TypeId}{d:TypeDesc}{q:Value}{es:List MapEntry}{r:Option (Nat × Value)} (hd:P.underlying kt=some d) (h:Instr.findNow d q es 0=some r) :
  (Instr.findKey kt q es).run P w=.ok r w:=by
 simp[Instr.findKey,run_underlying hd,h]
theorem arrKey {P:Program}{kt:TypeId}{e:TypeId} (hd:P.underlying kt=some (.array 2 e)) (hA:keyP P kt (.array 2 e)=true):WideMaps.ArrKey P kt e 2 ∧ P.underlying e=some (.int .u8) ∧ ∃ m,P.types.size=m+1:=by
 unfold keyP at hA
 simp only[Bool.and_eq_true]at hA
 obtain⟨h0,h1,h2,h3⟩:=hA
 have he:P.underlying e=some (.int .u8):=by
  split at h0
  ·assumption
  ·cases h0
 have h3':1 ≤ P.types.size:=by simpa [Nat.blt]using h3
 exact⟨⟨hd,by unfold Program.plainKey;rw[he],Nat.eq_of_beq_eq_true h1,Nat.eq_of_beq_eq_true h2⟩,he,P.types.size-1,by omega⟩
theorem goKey {P:Program}{kt e:TypeId} (A:WideMaps.ArrKey P kt e 2) (he:P.underlying e=some (.int .u8)) (hsz:∃ m,P.types.size=m+1){a b:Int} (ha:0 ≤ a ∧ a<256) (hb:0 ≤ b ∧ b<256) :
  ∃ l,Go.keyOf P kt (.agg ⟨[.int .u8 a,.int .u8 b]⟩)=some l:=by
 have hkt:=A.keyType hsz
 obtain⟨m0,hm0⟩:=hsz
 have wa:(Lit.int .u8 a).wf=true:=by simp[Lit.wf,IntKind.min,IntKind.max,IntKind.signed,IntKind.bits];omega
 have wb:(Lit.int .u8 b).wf=true:=by simp[Lit.wf,IntKind.min,IntKind.max,IntKind.signed,IntKind.bits];omega
 unfold Go.keyOf
 simp only[A.hu]
 rw[if_pos (by simp[hkt,Value.formed,A.hu,A.size]),hm0]
 unfold Program.keyLits
 simp only[A.hu,Value.cells]
 rw[if_pos (by rw[A.size];rfl)]
 simp[A.one,Program.keyLits,he,wa,wb,List.range_succ,List.range_zero]
theorem find_run {P:Program}{w:World}{kt:TypeId}{kd:TypeDesc}{q:Value} (hd:P.underlying kt=some kd) (hA:keyP P kt kd=true) (hq:keyOf kd q=true) (es:List MapEntry) (hk:∀ e∈es,keyOf kd e.key=true) (hnd:(es.map (·.key)).Nodup) :
  (es.find? (fun e=>keq q e.key)=none → (Instr.findKey kt q es).run P w=.ok none w) ∧
  ∀ e0,es.find? (fun e=>keq q e.key)=some e0 → ∃ j,es[j]?=some e0 ∧ (Instr.findKey kt q es).run P w=.ok (some (j,e0.val)) w ∧ ∀ k,k<j → ∀ e,es[k]?=some e → keq q e.key=false:=by
 by_cases hna:∀ n e,kd≠.array n e
 ·refine⟨fun h=>run_findKey hd (findNow_none hna hq es 0 hk h),fun e0 h=>?_⟩
  obtain⟨j,h1,h2,h3⟩:=findNow_some hna hq es 0 e0 hk h
  rw[Nat.zero_add]at h2
  exact⟨j,h1,run_findKey hd h2,h3⟩
 ·have hkd:∃ e,kd=.array 2 e:=by
   rcases keyOf_cases hq with⟨_,_,rfl,_⟩|⟨_,rfl,_⟩|⟨_,rfl,_⟩|⟨e,_,_,rfl,_⟩
   ·exact absurd (fun n e h=>by cases h) hna
   ·exact absurd (fun n e h=>by cases h) hna
   ·exact absurd (fun n e h=>by cases h) hna
   ·exact⟨e,rfl⟩
  obtain⟨e,rfl⟩:=hkd
  obtain⟨A,he,hsz⟩:=arrKey hd hA
  have gk:∀ {v:Value},keyOf (.array 2 e) v=true → ∃ l,Go.keyOf P kt v=some l:=fun {v} hv=>by
   rcases keyOf_cases hv with⟨_,_,h,_⟩|⟨_,h,_⟩|⟨_,h,_⟩|⟨_,a,b,_,rfl,ha,hb⟩
   ·cases h
   ·cases h
   ·cases h
   ·exact goKey A he hsz ha hb
  obtain⟨lx,hlx⟩:=gk hq
  rcases A.law.find w hlx es (fun x hx=>gk (hk x hx))with⟨h1,h2⟩|⟨j,x,h1,h2,h3⟩
  ·refine⟨fun _=>h1,fun e0 h=>?_⟩
   have hm:=List.mem_of_find?_eq_some h
   have hkq:keq q e0.key=true:=by simpa using List.find?_some h
   exact absurd ((keq_eq hq (hk e0 hm)).1 hkq).symm (h2 e0 hm)
  ·have hxm:x∈es:=List.mem_of_getElem? h2
   refine⟨fun h=>?_,fun e0 h=>?_⟩
   ·have:=List.find?_eq_none.1 h x hxm
    exact absurd ((keq_eq hq (hk x hxm)).2 h3.symm) this
   ·have hm:=List.mem_of_find?_eq_some h
    have hkq:keq q e0.key=true:=by simpa using List.find?_some h
    have he0:e0.key=q:=((keq_eq hq (hk e0 hm)).1 hkq).symm
    have low:∀ k,k<j → ∀ y,es[k]?=some y → keq q y.key=false:=fun k hkj y hy=>by
     cases hb:keq q y.key with
     |false=>rfl
     |true =>
      have hyk:y.key=q:=((keq_eq hq (hk y (List.mem_of_getElem? hy))).1 hb).symm
      have e1:(es.map (·.key))[k]?=some q:=by rw[List.getElem?_map,hy];exact congrArg some hyk
      have e2:(es.map (·.key))[j]?=some q:=by rw[List.getElem?_map,h2];exact congrArg some h3
      have:=(List.getElem?_inj (by rw[List.length_map];exact Nat.lt_trans hkj (List.getElem?_eq_some_iff.1 h2).1) hnd).1 (e1.trans e2.symm)
      omega
    have hx0:x=e0:=by
     obtain⟨i,hi⟩:=List.mem_iff_getElem?.1 hm
     have e1:(es.map (·.key))[i]?=some q:=by rw[List.getElem?_map,hi];exact congrArg some he0
     have e2:(es.map (·.key))[j]?=some q:=by rw[List.getElem?_map,h2];exact congrArg some h3
     have:=(List.getElem?_inj (by rw[List.length_map];exact(List.getElem?_eq_some_iff.1 hi).1) hnd).1 (e1.trans e2.symm)
     subst this
     rw[h2]at hi;cases hi;rfl
    subst hx0
    exact⟨j,h2,h1,low⟩
theorem checkKey_run {P:Program}{w:World}{kt:TypeId}{d:TypeDesc}{q:Value}{b:Bool} (hd:P.underlying kt=some d) (hA:keyP P kt d=true) (hq:keyOf d q=true):(Instr.checkKey b 10000 kt q).run P w=.ok () w:=by
 rcases keyOf_cases hq with⟨k,n,rfl,rfl⟩|⟨s,rfl,rfl⟩|⟨v,rfl,rfl⟩|⟨e,x,y,rfl,rfl,hx,hy⟩
 ·have key:∀ D,(Instr.checkKey b (D+1) kt (.int k n)).run P w=.ok () w:=fun D=>by simp[Instr.checkKey,run_underlying hd]
  exact key 9999
 ·have key:∀ D,(Instr.checkKey b (D+1) kt (.string s)).run P w=.ok () w:=fun D=>by simp[Instr.checkKey,run_underlying hd]
  exact key 9999
 ·have key:∀ D,(Instr.checkKey b (D+1) kt (.bool v)).run P w=.ok () w:=fun D=>by simp[Instr.checkKey,run_underlying hd]
  exact key 9999
 ·obtain⟨A,he,hsz⟩:=arrKey hd hA
  obtain⟨l,hl⟩:=goKey A he hsz hx hy
  exact A.law.check w b hl
theorem keyself {ρ:Rn}{kd:TypeDesc}{q x:Value} (hq:keyOf kd q=true) (hx:V ρ q x):x=q:=by
 rcases keyOf_cases hq with⟨k,n,rfl,rfl⟩|⟨s,rfl,rfl⟩|⟨v,rfl,rfl⟩|⟨e,a,b,rfl,rfl,_⟩
 ·exact v_int hx
 ·exact v_string hx
 ·exact v_bool hx
 ·cases hx with
  |@agg xs xs' h1 h2 =>
   obtain⟨l⟩:=xs'
   match l,h1,h2 with
   |[c0,c1],_,h2 =>
    have e0:=v_int (h2 0 _ c0 rfl rfl)
    have e1:=v_int (h2 1 _ c1 rfl rfl)
    subst e0;subst e1;rfl
theorem stamps_nil:Stamps #[] 0:=⟨fun e h=>by simp at h,by simp,by simp⟩
theorem stamps_push {es:Array MapEntry}{clock:Nat}{d e:Value} (h:Stamps es clock) (hk:∀ x∈es.toList,x.key≠d):Stamps (es.push { key:=d,val:=e,born:=clock }) (clock+1):=by
 refine⟨fun x hx=>?_,?_,?_⟩
 ·simp at hx
  rcases hx with hx|rfl
  ·have:=h.1 x (by simpa using hx);omega
  ·show clock<clock+1;omega
 ·simp only[Array.toList_push,List.map_append,List.map_cons,List.map_nil]
  refine List.nodup_append.2 ⟨h.2.1,by simp,?_⟩
  intro a ha b hb
  simp at hb
  subst hb
  obtain⟨x,hx,rfl⟩:=List.mem_map.1 ha
  have:=h.1 x hx;omega
 ·simp only[Array.toList_push,List.map_append,List.map_cons,List.map_nil]
  refine List.nodup_append.2 ⟨h.2.2,by simp,?_⟩
  intro a ha b hb
  simp at hb
  subst hb
  obtain⟨x,hx,rfl⟩:=List.mem_map.1 ha
  exact hk x hx
theorem stamps_modify {es:Array MapEntry}{clock j:Nat}{d e:Value}{e0:MapEntry} (h:Stamps es clock) (hj:es[j]?=some e0) (hd:e0.key=d):Stamps (es.modify j fun x=>{ x with key:=d,val:=e }) clock:=by
 have hm:(es.modify j fun x=>{ x with key:=d,val:=e }).toList.map (·.born)=es.toList.map (·.born):=by
  apply List.ext_getElem?
  intro i
  simp only[List.getElem?_map,Array.getElem?_toList,Array.getElem?_modify]
  split
  ·cases es[i]?<;>rfl
  ·rfl
 have hm2:(es.modify j fun x=>{ x with key:=d,val:=e }).toList.map (·.key)=es.toList.map (·.key):=by
  apply List.ext_getElem?
  intro i
  simp only[List.getElem?_map,Array.getElem?_toList,Array.getElem?_modify]
  split
  ·rename_i hji
   subst hji
   rw[hj]
   simp[hd]
  ·rfl
 refine⟨fun x hx=>?_,by rw[hm];exact h.2.1,by rw[hm2];exact h.2.2⟩
 have:x.born∈es.toList.map (·.born):=by rw[← hm];exact List.mem_map.2 ⟨x,hx,rfl⟩
 obtain⟨y,hy,he⟩:=List.mem_map.1 this
 rw[← he];exact h.1 y hy
theorem mkmap_runs {P:Program}{ρ:Rn}{g:G}{w:World}{n t kt et:Nat}{z:Value}{kd:TypeDesc} (h1:P.underlying kt=some kd) (h2:(P.info? et).bind (·.zero)=some z) (h3:(vcells z).all okc1=true)
  (hr:RelH P ρ g w) (hn:ρ n=none) :
  Runs P (vS (Instr.makeMap t none)) ρ g w n ⟨.map (some n),[(n,some (.map kt et 0 (fun _=>false) (fun _=>z)))],1,true⟩:=by
 refine⟨_,w.alloc (.map #[] 0),Good.fresh (l:=⟨⟨w.heap.size,0,none⟩,0,0⟩) hr hn rfl rfl rfl (by simp) (fun k hk=>heap_push_old w _ k hk) (Nat.le_refl _) ?_,.inl ⟨.map (some w.heap.size),run_vS ?_,?_⟩⟩
 ·refine⟨kd,z,#[],0,h1,h2,rfl,rfl,heap_alloc_new _ _,⟨rfl,stamps_nil⟩,by simp,fun q _=>?_⟩
  simp
  exact zero_self h3
 ·simp[Instr.makeMap]
 ·exact V.map (l:=⟨⟨w.heap.size,0,none⟩,0,0⟩) (rset_same _ _ _)
theorem zeroValue_run {P:Program}{w:World}{et:TypeId}{z:Value} (h:(P.info? et).bind (·.zero)=some z):(zeroValue et).run P w=.ok z w:=by
 cases hi:P.info? et with
 |none=>simp[hi]at h
 |some i=>simp[hi]at h;simp[zeroValue,typeInfo,hi,h]
theorem run_getMap {P:Program}{w:World}{b:Nat}{es:Array MapEntry}{clock:Nat} (h:w.heap[b]?=some (.map es clock)):(getObj b).run P w=.ok (.map es clock) w:=by
 simp[getObj,Sem.run,h]
theorem lookup_runs {P:Program}{ρ:Rn}{g:G}{w:World}{n t kt et:Nat}{kd:TypeDesc}{z:Value}{ok:Bool}{vs:List Value}{bs:List Blk}{c d:Value}{r:Res}
  (hu:P.underlying t=some (.map kt et)) (h1:P.underlying kt=some kd) (hA:keyP P kt kd=true) (h2:(P.info? et).bind (·.zero)=some z) (h3:(vcells z).all okc1=true)
  (ha:aLookup kt et kd z ok vs bs=some r) (hok:r.ok=true) (hv:VL ρ vs [c,d]) (hr:RelH P ρ g w) (hb:GL g (mapId vs) bs):Runs P (vS (Instr.lookup t c d ok)) ρ g w n r:=by
 unfold aLookup at ha
 split at ha
 ·rename_i id k kt' et' m has val
  simp only[mapId,GL,and_true]at hb
  obtain⟨hm,ha2⟩:=must_some ha
  clear ha
  have ha:=ha2
  clear ha2
  simp only[Bool.and_eq_true]at hm
  have e1:=Nat.eq_of_beq_eq_true hm.1
  have e2:=Nat.eq_of_beq_eq_true hm.2
  subst e1 e2
  have ha':=ha
  simp only[rv,Option.some.injEq]at ha';subst ha'
  obtain⟨hv1,hv2,_⟩:=hv
  have hk:keyOf kd k=true:=hok
  have:=keyself hk hv2;subst this
  obtain⟨l,hl,rfl⟩:=v_map hv1
  obtain⟨l',hl',hh⟩:=hr.holds _ _ hb
  rw[hl]at hl';cases hl'
  obtain⟨d',z',es,clock,q1,q2,q3,q3',q4,q5,q6,q7⟩:=hh
  rw[h1]at q1;cases q1
  rw[h2]at q2;cases q2
  have hq7:=q7 d hk
  have fin:∀ (v:Value) (b:Bool),has d=b → V ρ (val d) v → (Instr.lookup t (.map (some l.addr.block)) d ok).run P w=.ok (if ok then .tuple #[v,.bool b]else v) w →
    Runs P (vS (Instr.lookup t (.map (some l.addr.block)) d ok)) ρ g w n ⟨cond ok (.tuple ⟨[val d,.bool (has d)]⟩) (val d),[],0,keyOf kd d⟩:=by
   intro v b hb' hv' hrun
   refine Runs.pureS hr hrun ⟨_,rfl⟩ ?_
   cases ok
   ·exact hv'
   ·simp only[cond_true,if_true]
    exact VL.tuple ⟨hv',by rw[hb'];exact⟨.bool _,trivial⟩⟩
  cases hf:es.toList.find? (fun e=>keq d e.key)with
  |none =>
   rw[hf]at hq7
   have hn:=(find_run (w:=w) h1 hA hk es.toList q6 q5.2.2.2).1 hf
   exact fin z false hq7.1 hq7.2 (by simp[Instr.lookup,run_underlying hu,run_getMap q4,checkKey_run h1 hA hk,hn,zeroValue_run h2])
  |some e0 =>
   rw[hf]at hq7
   obtain⟨j,_,hn,_⟩:=(find_run (w:=w) h1 hA hk es.toList q6 q5.2.2.2).2 e0 hf
   exact fin e0.val true hq7.1 hq7.2 (by simp[Instr.lookup,run_underlying hu,run_getMap q4,checkKey_run h1 hA hk,hn])
 ·rename_i k
  have ha':=ha
  simp only[rv,Option.some.injEq]at ha';subst ha'
  obtain⟨hv1,hv2,_⟩:=hv
  have hk:keyOf kd k=true:=hok
  have:=keyself hk hv2;subst this
  have:=v_mnil hv1;subst this
  have hn:=(find_run (w:=w) h1 hA hk [] (by simp) (by simp)).1 rfl
  refine Runs.pureS (c:=if ok then .tuple #[z,.bool false]else z) hr (by simp[Instr.lookup,run_underlying hu,checkKey_run h1 hA hk,hn,zeroValue_run h2]) ⟨_,ha⟩ ?_
  cases ok
  ·exact zero_self h3
  ·exact VL.tuple ⟨zero_self h3,.bool _,trivial⟩
 ·cases ha
theorem sameBits_self {d:TypeDesc}{k:Value} (hk:keyOf d k=true):Instr.sameBits 10000 k k=true:=by
 rcases keyOf_cases hk with⟨k,n,rfl,rfl⟩|⟨s,rfl,rfl⟩|⟨v,rfl,rfl⟩|⟨e,x,y,rfl,rfl,_⟩
 ·simp[Instr.sameBits]
 ·simp only[Instr.sameBits];rw[beq_toListBytes];simp
 ·simp[Instr.sameBits]
 ·simp[Instr.sameBits]
theorem mapupd_runs {P:Program}{ρ:Rn}{g:G}{w:World}{n t kt et:Nat}{kd:TypeDesc}{vs:List Value}{bs:List Blk}{c d e:Value}{r:Res}
  (hu:P.underlying t=some (.map kt et)) (h1:P.underlying kt=some kd) (hA:keyP P kt kd=true)
  (ha:aMapupd kt et kd vs bs=some r) (hok:r.ok=true) (hv:VL ρ vs [c,d,e]) (hr:RelH P ρ g w) (hb:GL g (mapId vs) bs):Runs P (uS (Instr.mapUpdate t c d e)) ρ g w n r:=by
 unfold aMapupd at ha
 split at ha
 ·rename_i id k v kt' et' m has val
  simp only[mapId,GL,and_true]at hb
  obtain⟨hm,ha2⟩:=must_some ha
  clear ha
  have ha:=ha2
  clear ha2
  simp only[Bool.and_eq_true]at hm
  have e1:=Nat.eq_of_beq_eq_true hm.1
  have e2:=Nat.eq_of_beq_eq_true hm.2
  subst e1 e2
  simp only[Option.some.injEq]at ha;subst ha
  obtain⟨hv1,hv2,hv3,_⟩:=hv
  have hk:keyOf kd k=true:=hok
  have:=keyself hk hv2;subst this
  obtain⟨l,hl,rfl⟩:=v_map hv1
  obtain⟨l',hl',hh⟩:=hr.holds _ _ hb
  rw[hl]at hl';cases hl'
  obtain⟨d',z,es,clock,q1,q2,q3,q3',q4,q5,q6,q7⟩:=hh
  rw[h1]at q1;cases q1
  have hq7:=q7 d hk
  have hlt:l.addr.block<w.heap.size:=by
   rcases Nat.lt_or_ge l.addr.block w.heap.size with h|h
   ·exact h
   ·simp[Array.getElem?_eq_none h]at q4
  have fin:∀ (es':Array MapEntry) (cl:Nat),(Instr.mapUpdate t (.map (some l.addr.block)) d e).run P w=.ok () { w with heap:=w.heap.setIfInBounds l.addr.block (.map es' cl) } →
    (es'.size=cond (has d) m (m+1) ∧ Stamps es' cl) → (∀ x∈es'.toList,keyOf kd x.key=true) →
    (∀ q,keyOf kd q=true → es'.toList.find? (fun x=>keq q x.key)=if keq q d=true then some { ((es'.toList.find? (fun x=>keq q x.key)).getD ⟨d,e,0⟩)with val:=e }else es.toList.find? (fun x=>keq q x.key)) →
    Runs P (uS (Instr.mapUpdate t (.map (some l.addr.block)) d e)) ρ g w n
     ⟨undefd,[(id,some (.map kt et (cond (has d) m (m+1)) (fun q=>keq q d||has q) (fun q=>cond (keq q d) v (val q))))],0,keyOf kd d⟩:=by
   intro es' cl hrun hsz hkeys hfind
   refine⟨ρ,{ w with heap:=w.heap.setIfInBounds l.addr.block (.map es' cl) },Good.turn hr hb rfl hl rfl rfl rfl (by simp) (fun k hk=>?_) ?_,.inr ⟨run_uS hrun,rfl⟩⟩
   ·show(w.heap.setIfInBounds l.addr.block _)[k]?=_
    rw[Array.getElem?_setIfInBounds_ne (Ne.symm hk)]
   ·refine⟨kd,z,es',cl,h1,q2,q3,q3',?_,hsz,hkeys,fun q hq=>?_⟩
    ·show(w.heap.setIfInBounds l.addr.block _)[l.addr.block]?=_
     simp[hlt]
    ·have:=hfind q hq
     by_cases hqd:keq q d=true
     ·rw[if_pos hqd]at this
      rw[this]
      simp only[hqd,Bool.true_or,cond_true,true_and]
      exact hv3
     ·rw[if_neg hqd]at this
      rw[this]
      have h0:keq q d=false:=by simpa using hqd
      simp only[h0,Bool.false_or,cond_false]
      exact q7 q hq
  cases hf:es.toList.find? (fun x=>keq d x.key)with
  |none =>
   rw[hf]at hq7
   have hn:=(find_run (w:=w) h1 hA hk es.toList q6 q5.2.2.2).1 hf
   refine fin (es.push { key:=d,val:=e,born:=clock }) (clock+1) ?_ ⟨by simp[hq7.1,q5.1],stamps_push q5.2 (fun x hx ex=>absurd ((keq_eq hk hk).2 rfl) (by have:=List.find?_eq_none.1 hf x hx;rwa [ex]at this))⟩ ?_ ?_
   ·simp[Instr.mapUpdate,run_underlying hu,run_getMap q4,checkKey_run h1 hA hk,hn,setObj,Sem.run,q4]
   ·intro x hx
    simp at hx
    rcases hx with hx|rfl
    ·exact q6 x (by simpa using hx)
    ·exact hk
   ·intro q hq
    simp only[Array.toList_push,List.find?_append]
    by_cases hqd:keq q d=true
    ·rw[if_pos hqd]
     have:=(keq_eq hq hk).1 hqd
     subst this
     rw[hf]
     simp[hqd]
    ·rw[if_neg hqd]
     have h0:keq q d=false:=by simpa using hqd
     simp[h0]
  |some e0 =>
   rw[hf]at hq7
   obtain⟨j,hj,hn,hlow⟩:=(find_run (w:=w) h1 hA hk es.toList q6 q5.2.2.2).2 e0 hf
   have hj':es[j]?=some e0:=by simpa using hj
   have he0:keq d e0.key=true:=by
    have:=List.find?_some hf
    simpa using this
   have hkey:e0.key=d:=((keq_eq hk (q6 e0 (List.mem_of_find?_eq_some hf))).1 he0).symm
   have hjlt:j<es.size:=by
    rcases Nat.lt_or_ge j es.size with h|h
    ·exact h
    ·simp[Array.getElem?_eq_none h]at hj'
   refine fin (es.modify j fun x=>{ x with key:=d,val:=e }) clock ?_ ⟨by simp[hq7.1,q5.1],stamps_modify q5.2 hj' hkey⟩ ?_ ?_
   ·simp[Instr.mapUpdate,run_underlying hu,run_getMap q4,checkKey_run h1 hA hk,hn,hj',Instr.keyThatStays,hkey,sameBits_self hk,setObj,Sem.run,q4]
   ·intro x hx
    rw[List.mem_iff_getElem?]at hx
    obtain⟨i,hi⟩:=hx
    simp only[Array.getElem?_toList,Array.getElem?_modify]at hi
    split at hi
    ·cases hx:es[i]? with
     |none=>simp[hx]at hi
     |some y=>simp[hx]at hi;subst hi;exact hk
    ·exact q6 x (List.mem_iff_getElem?.2 ⟨i,by simpa using hi⟩)
   ·intro q hq
    have hmod:(es.modify j fun x=>{ x with key:=d,val:=e }).toList=es.toList.modify j fun x=>{ x with key:=d,val:=e }:=by simp
    rw[hmod]
    have gen:∀ (l:List MapEntry) (j:Nat),l[j]?=some e0 → (∀ k,k<j → ∀ x,l[k]?=some x → keq d x.key=false) →
      (l.modify j fun x=>{ x with key:=d,val:=e }).find? (fun x=>keq q x.key)=if keq q d=true then some { e0 with key:=d,val:=e }else l.find? (fun x=>keq q x.key):=by
     intro l
     induction l with
     |nil=>intro j hj;simp at hj
     |cons a l ih =>
      intro j hj hl
      cases j with
      |zero =>
       simp at hj;subst hj
       simp only[List.modify_zero_cons,List.find?_cons]
       by_cases hqd:keq q d=true
       ·simp[hqd]
       ·have h0:keq q d=false:=by simpa using hqd
        simp only[h0,Bool.false_eq_true,if_false]
        rw[hkey,h0]
      |succ j =>
       simp only[List.modify_succ_cons,List.find?_cons]
       have ha0:=hl 0 (by omega) a rfl
       have ihj:=ih j (by simpa using hj) (fun k hkj x hx=>hl (k+1) (by omega) x (by simpa using hx))
       by_cases hqd:keq q d=true
       ·have:=(keq_eq hq hk).1 hqd
        subst this
        rw[ha0]
        simpa using ihj
       ·rw[if_neg hqd]at ihj ⊢
        rw[ihj]
    rw[gen es.toList j hj hlow]
    by_cases hqd:keq q d=true
    ·simp[hqd]
    ·simp[hqd]
 ·cases ha
theorem lenM_runs {P:Program}{ρ:Rn}{g:G}{w:World}{n t ty kt et:Nat}{ts:List TypeId}{vs:List Value}{bs:List Blk}{c:Value}{r:Res} (hu:P.underlying t=some (.map kt et))
  (ha:aLenM vs bs=some r) (hv:VL ρ vs [c]) (hr:RelH P ρ g w) (hb:GL g (mapId vs) bs):Runs P (vS (Builtin.len_ ⟨t :: ts⟩ ty #[c])) ρ g w n r:=by
 unfold aLenM at ha
 split at ha
 ·have:=v_mnil hv.1;subst this
  exact Runs.pureS hr (by simp[Builtin.len_,run_underlying hu,goInt]) ⟨_,ha⟩ (.int _ _)
 ·rename_i id kt' et' m has val
  simp only[mapId,GL,and_true]at hb
  obtain⟨l,hl,rfl⟩:=v_map hv.1
  obtain⟨l',hl',hh⟩:=hr.holds _ _ hb
  rw[hl]at hl';cases hl'
  obtain⟨d',z,es,clock,q1,q2,q3,q3',q4,q5,q6,q7⟩:=hh
  refine Runs.pureS (c:=.int .i64 es.size) hr ?_ ⟨_,ha⟩ (by rw[q5.1];exact .int _ _)
  simp[Builtin.len_,run_underlying hu,goInt,run_getMap q4]
 ·cases ha
end Go.X
