import Derived.Test.YtghpjlmaamnnpaaDoorH04
import Derived.Laws.BytesString
import Derived.Laws.IdiomStrings
set_option linter.all false
namespace Go.X
open Go
theorem zerosOf_length (z:List Value):∀ n,(zerosOf z n).length=n*z.length
 |0=>by simp[zerosOf]
 |n+1=>by simp[zerosOf,zerosOf_length z n,Nat.succ_mul];omega
theorem zerosOf_get (z:List Value) (hz:0<z.length):∀ (n i:Nat),i<n*z.length → (zerosOf z n)[i]?=z[i % z.length]?
 |0,i,h=>by omega
 |n+1,i,h=>by
  rw[Nat.succ_mul]at h
  simp only[zerosOf]
  by_cases hi:i<z.length
  ·rw[List.getElem?_append_left hi,Nat.mod_eq_of_lt hi]
  ·rw[List.getElem?_append_right (by omega),zerosOf_get z hz n (i-z.length) (by omega)]
   congr 1
   exact(Nat.mod_eq_sub_mod (by omega)).symm
theorem Good.rows {P:Program}{ρ:Rn}{g:G} {w w':World}{n m st ex:Nat}{f:Nat → List Value}{opn:Bool}{c:Array Value}{t:TypeId}{lo hi:Nat} (h:RelH P ρ g w) (hn:ρ n=none)
  (hos:w'.os=w.os) (htape:w'.tape=w.tape) (hout:w'.output=w.output) (hsz:w'.heap.size=w.heap.size+1) (hold:∀ k,k<w.heap.size → w'.heap[k]?=w.heap[k]?)
  (hnew:w'.heap[w.heap.size]?=some (.cells c t (lo,hi))) (hlo:∀ i,i<(m+ex)*st → ¬ (lo ≤ i ∧ i<hi)) (hopn:opn=false → ex=0) (hc:(m+ex)*st ≤ c.size)
  (hf:∀ j,j<m → (f j).length=st ∧ ∀ o v,(f j)[o]?=some v → ∃ u,c[j*st+o]?=some u ∧ CV ρ v u) :
  Good P ρ g w n [(n,some (.rows m st f opn false))] 1 (rset ρ n ⟨⟨w.heap.size,0,none⟩,st,ex⟩) w':=by
 refine Good.fresh h hn hos htape hout (by omega) hold (Nat.le_refl _) ?_
 refine⟨rfl,fun h _=>hopn h,fun j hj=>⟨(hf j hj).1,fun o v ho=>?_⟩,fun _=>⟨c,t,lo,hi,hnew,rfl,by simpa using hc,fun i _ h2=>hlo i (by simpa using h2)⟩⟩
 obtain⟨u,hu,hvu⟩:=(hf j hj).2 o v ho
 refine⟨u,?_,hvu.mono (le_rset _ hn)⟩
 have:=cell_in (a:=(⟨w.heap.size,0,none⟩:Addr)) hnew rfl (j*st+o)
 rw[this];simpa using hu
theorem v_newrows {ρ:Rn}{n a st ex len cap:Nat}:V (rset ρ n ⟨⟨a,0,none⟩,st,ex⟩) (.slice (some ⟨n,0,none⟩) len cap) (.slice (some ⟨a,0,none⟩) len (cap+ex)):=by
 have:=V.slc (ρ:=rset ρ n ⟨⟨a,0,none⟩,st,ex⟩) (id:=n) (idx:=0) (len:=len) (cap:=cap) (rset_same _ _ _)
 simpa [Addr.add]using this
theorem mkslice_runs {P:Program}{ρ:Rn}{g:G}{w:World}{n t el len:Nat}{zero:List Value}{parts:Array (Nat × Operand)}{vs:List Value}{r:Res}{e:Operand → Value}
  (hu:P.underlying t=some (.slice el)) (hz:zeroCells P el=some zero) (hpos:0<zero.length) (ha:aMkslice zero len parts.toList n vs=some r) (hok:r.ok=true)
  (hv:VL ρ vs ((sndOps2 parts.toList).map e)) (hr:RelH P ρ g w) (hn:ρ n=none) :
  Runs P (vS (Instr.buildSlice t len (parts.map fun (i,x)=>(i,e x)))) ρ g w n r:=by
 obtain⟨i,Z,h1,h2,h3,h4,h5⟩:=zeroCells_some hz
 unfold aMkslice at ha
 split at ha
 ·rename_i cs hcs
  rw[normL_eq]at ha
  obtain⟨h1s,ha⟩:=must_some ha
  simp only[Option.some.injEq]at ha
  subst ha
  simp only[decide_eq_true_eq]at hok
  have hZs:Z.cells.size=zero.length:=by rw[← h3];simp
  by_cases hlen:len=0
  ·subst hlen
   have hsz:(0*i.size=0):=by simp
   have hfill:fillAt [] (partOff zero.length parts.toList) vs=some cs:=hcs
   obtain⟨R,hR,hV⟩:=fill_VL parts.toList _ vs [] #[] cs (PR_partOff parts.toList) (by rw[sndOps_partOff];exact hv) trivial hfill
   have hrun:(Instr.buildSlice t 0 (parts.map fun (i,x)=>(i,e x))).run P w=.ok (.slice (some ⟨w.heap.size,0,none⟩) 0 0) (w.alloc (.cells R el)):=by
    have hparts:(parts.map fun (i,x)=>(i,e x)).toList=parts.toList.map fun p=>(p.1,e p.2):=by simp
    rw[← hparts,h5]at hR
    simp[Instr.buildSlice,run_underlying hu,sizeOf,typeInfo,h1,newRow]
    rw[show Array.range 0=#[] from rfl]
    simp only[Array.map_empty]
    simp only[Array.toList_map]at hR
    rw[hR];simp
   refine⟨_,_,Good.rows (w':=w.alloc (.cells R el)) (c:=R) (t:=el) (lo:=0) (hi:=0) (ex:=0) hr hn rfl rfl rfl (by simp) (fun k hk=>heap_push_old w _ k hk) (heap_alloc_new _ _) (fun i _=>by omega) (fun _=>rfl) (by simp) (fun j hj=>by omega),.inl ⟨_,run_vS hrun,?_⟩⟩
   exact v_newrows (ex:=0)
  ·have hprod:¬ len*i.size=0:=by
    rw[← h5];intro hx
    rcases Nat.mul_eq_zero.1 hx with h|h<;>omega
   have hVz:VL ρ (zerosOf zero len) ((Array.range (len*i.size)).map (Z.cells[· % Z.cells.size]!)).toList:=by
    refine VL.of_get (by rw[zerosOf_length];simp[h5]) fun j v c hv hc=>?_
    have hj:j<len*zero.length:=by have:=lt_of_get hv;rwa [zerosOf_length]at this
    rw[zerosOf_get zero hpos len j hj]at hv
    have hjm:j % Z.cells.size<Z.cells.size:=Nat.mod_lt _ (by omega)
    have hj':j<len*i.size:=by rwa [← h5]
    have hc2:c=Z.cells[j % Z.cells.size]!:=by
     simp[hj']at hc;exact hc.symm
    have hself:=VL.self (ρ:=ρ) h4
    rw[hc2]
    refine hself.get hv ?_
    rw[hZs]at hjm ⊢
    rw[← h3]at hjm ⊢
    simp at hjm ⊢
    simp[hjm]
   obtain⟨R,hR,hV⟩:=fill_VL parts.toList _ vs _ _ cs (PR_partOff parts.toList) (by rw[sndOps_partOff];exact hv) hVz hcs
   have hparts:(parts.map fun (i,x)=>(i,e x)).toList=parts.toList.map fun p=>(p.1,e p.2):=by simp
   have hrun:=run_buildSlice (P:=P) w t el len (parts.map fun (i,x)=>(i,e x)) R i Z hu h1 h2 (by rw[← h5];omega) hprod (by rw[hparts];rw[h5]at hR;exact hR)
   have hlen':∀ {cs0:List Value}{ps:List (Nat × Nat × Operand)}{vs:List Value}{cs:List Value},fillAt cs0 ps vs=some cs → cs.length=cs0.length:=by
    intro cs0 ps
    induction ps generalizing cs0 with
    |nil=>intro vs cs h;cases vs with
     |nil=>simp[fillAt]at h;rw[h]
     |cons=>simp[fillAt]at h
    |cons p ps ih =>
     intro vs cs h
     obtain⟨o,s,x⟩:=p
     cases vs with
     |nil=>simp[fillAt]at h
     |cons v vs =>
      simp only[fillAt]at h
      cases hb:(Nat.beq (vcells v).length s&&Nat.ble (o+s) cs0.length)with
      |false=>simp[hb]at h
      |true =>
       simp only[hb,cond_true]at h
       simp only[Bool.and_eq_true]at hb
       have e1:=Nat.eq_of_beq_eq_true hb.1
       have e2:=ble_le hb.2
       rw[ih h,putAt_length _ _ _ (by omega)]
   have hcl:cs.length=len*zero.length:=by rw[hlen' hcs,zerosOf_length]
   have hRl:R.size=len*zero.length:=by rw[← hcl,hV.length];simp
   refine⟨_,_,Good.rows (w':=w.alloc (.cells R el)) (c:=R) (t:=el) (lo:=0) (hi:=0) (ex:=0) hr hn rfl rfl rfl (by simp) (fun k hk=>heap_push_old w _ k hk) (heap_alloc_new _ _) (fun i _=>by omega) (fun _=>rfl) (by simp[hRl]) (fun j hj=>?_),.inl ⟨_,run_vS hrun,v_newrows (ex:=0)⟩⟩
   have hmul:j*zero.length+zero.length ≤ len*zero.length:=by
    have:=Nat.mul_le_mul_right zero.length (show j+1 ≤ len by omega)
    rwa [Nat.succ_mul]at this
   refine⟨slab_length (by omega),fun o v ho=>?_⟩
   have:=slab_get ho
   have hlt:=lt_of_get this
   have hlt':j*zero.length+o<R.size:=by omega
   refine⟨R[j*zero.length+o],by simp[hlt'],List.all_eq_true.1 h1s v (List.mem_of_getElem? this),hV.get this (by simp[hlt'])⟩
 ·cases ha
end Go.X
namespace Go.X
open Go
theorem nilck_runs {P:Program}{ρ:Rn}{g:G}{w:World}{n:Nat}{vs:List Value}{x:Operand}{e:Operand → Value}{r:Res}{o:Oper} (ho:o.op=.nilCheck x)
  (ha:aNilck vs=some r) (hv:VL ρ vs [e x]) (hr:RelH P ρ g w):Runs P (execOp e o) ρ g w n r:=by
 unfold aNilck at ha
 split at ha
 ·rename_i a
  simp only[rv,Option.some.injEq]at ha;subst ha
  have hv:=hv.1
  have:∃ b,e x=.pointer (some b):=by
   generalize e x=c at hv
   cases hv;exact⟨_,rfl⟩
  obtain⟨b,hb⟩:=this
  refine Runs.pure hr (c:=e x) ?_ hv
  simp[execOp,ho,hb]
 ·rename_i f xs ys
  simp only[rv,Option.some.injEq]at ha;subst ha
  have hv:=hv.1
  have:∃ xs' ys',e x=.func (.func f) xs' ys':=by
   generalize e x=c at hv
   cases hv;exact⟨_,_,rfl⟩
  obtain⟨xs',ys',hb⟩:=this
  refine Runs.pure hr (c:=e x) ?_ hv
  simp[execOp,ho,hb]
 ·cases ha
theorem bits2_run {P:Program}{w:World}{op:BinOp}{k:IntKind}{x y:Int} (h:op=.and ∨ op=.or ∨ op=.xor ∨ op=.andNot) :
  (Op.intBits op k x y).run P w=.ok (.int k (bits2 op k x y)) w:=by
 rcases h with rfl|rfl|rfl|rfl<;>simp[Op.intBits,bits2]
theorem binI_run {P:Program}{w:World}{op:BinOp}{t:TypeId} {k k':IntKind}{a b:Int}{r:Res} (hk:(isShift op||decide (k=k'))=true) (h:binI op k a b=some r) (hok:r.ok=true) :
  ∃ v ok,rv v ok=some r ∧ (binOp op t (.int k a) (.int k' b)).run P w=.ok v w ∧ ∀ ρ,V ρ v v:=by
 cases op<;>simp only[binI,rv,Option.some.injEq]at h<;>subst h<;>simp[isShift]at hk
 case shl =>
  simp at hok
  refine⟨_,_,rfl,?_,fun ρ=>.int _ _⟩
  have:¬ b<0:=by omega
  simp[binOp,Op.shift,this]
 case shr =>
  simp at hok
  refine⟨_,_,rfl,?_,fun ρ=>.int _ _⟩
  have:¬ b<0:=by omega
  simp[binOp,Op.shift,this]
 all_goals subst hk
 case quo =>
  simp at hok
  exact⟨_,_,rfl,by simp[binOp,Op.intDiv,hok],fun ρ=>.int _ _⟩
 case rem =>
  simp at hok
  exact⟨_,_,rfl,by simp[binOp,Op.intDiv,hok],fun ρ=>.int _ _⟩
 case and=>exact⟨_,_,rfl,by simp[binOp,bits2_run],fun ρ=>.int _ _⟩
 case or=>exact⟨_,_,rfl,by simp[binOp,bits2_run],fun ρ=>.int _ _⟩
 case xor=>exact⟨_,_,rfl,by simp[binOp,bits2_run],fun ρ=>.int _ _⟩
 case andNot=>exact⟨_,_,rfl,by simp[binOp,bits2_run],fun ρ=>.int _ _⟩
 case add=>exact⟨_,_,rfl,by simp[binOp,Op.intArith],fun ρ=>.int _ _⟩
 case sub=>exact⟨_,_,rfl,by simp[binOp,Op.intArith],fun ρ=>.int _ _⟩
 case mul=>exact⟨_,_,rfl,by simp[binOp,Op.intArith],fun ρ=>.int _ _⟩
 case eql=>exact⟨_,_,rfl,by simp[binOp,Op.intCmp],fun ρ=>.bool _⟩
 case neq=>exact⟨_,_,rfl,by simp[binOp,Op.intCmp],fun ρ=>.bool _⟩
 case lss=>exact⟨_,_,rfl,by simp[binOp,Op.intCmp],fun ρ=>.bool _⟩
 case leq=>exact⟨_,_,rfl,by simp[binOp,Op.intCmp],fun ρ=>.bool _⟩
 case gtr=>exact⟨_,_,rfl,by simp[binOp,Op.intCmp],fun ρ=>.bool _⟩
 case geq=>exact⟨_,_,rfl,by simp[binOp,Op.intCmp],fun ρ=>.bool _⟩
theorem binS_run {P:Program}{w:World}{op:BinOp}{t:TypeId}{a b:ByteArray}{r:Res} (h:binS op a b=some r) (hok:r.ok=true) :
  ∃ v ok,rv v ok=some r ∧ (binOp op t (.string a) (.string b)).run P w=.ok v w ∧ ∀ ρ,V ρ v v:=by
 cases op<;>simp only[binS,rv,Option.some.injEq,reduceCtorEq]at h<;>subst h
 case add =>
  simp at hok
  refine⟨_,_,rfl,?_,fun ρ=>.string _⟩
  have:¬ (9223372036854775807<((a.size:Int)+(b.size:Int))):=by omega
  simp[binOp,Op.stringOp,this]
 all_goals exact⟨_,_,rfl,by simp[binOp,Op.stringOp],fun ρ=>.bool _⟩
theorem bin_runs {P:Program}{ρ:Rn}{g:G}{w:World}{n:Nat}{op:BinOp}{t:TypeId}{vs:List Value}{x y:Operand}{c d:Value}{r:Res}
  (ha:aBin op vs=some r) (hok:r.ok=true) (hv:VL ρ vs [c,d]) (hr:RelH P ρ g w):Runs P (vS (do eqGuard op t x y c d;binOp op t c d)) ρ g w n r:=by
 unfold aBin at ha
 split at ha
 ·rename_i k a k' b
  split at ha
  ·rename_i hk
   obtain⟨h1,h2,_⟩:=hv
   have:=v_int h1;subst this
   have:=v_int h2;subst this
   obtain⟨v,ok,e1,e2,e3⟩:=binI_run (P:=P) (w:=w) (t:=t) hk ha hok
   exact Runs.pureS hr (by rw[eqGuard_at_int];simp[e2]) ⟨_,e1⟩ (e3 ρ)
  ·cases ha
 ·obtain⟨h1,h2,_⟩:=hv
  have:=v_string h1;subst this
  have:=v_string h2;subst this
  obtain⟨v,ok,e1,e2,e3⟩:=binS_run (P:=P) (w:=w) (t:=t) ha hok
  exact Runs.pureS hr (by rw[eqGuard_at_string];simp[e2]) ⟨_,e1⟩ (e3 ρ)
 ·cases ha
theorem eqb_runs {P:Program}{ρ:Rn}{g:G}{w:World}{n:Nat}{op:BinOp}{neg:Bool}{t:TypeId}{vs:List Value}{x y:Operand}{c d:Value}{r:Res}
  (hop:op=cond neg .neq .eql) (ht:P.underlying t=some .bool) (ha:aEqb neg vs=some r) (hv:VL ρ vs [c,d]) (hr:RelH P ρ g w) :
  Runs P (vS (do eqGuard op t x y c d;binOp op t c d)) ρ g w n r:=by
 unfold aEqb at ha
 split at ha
 ·rename_i a b
  obtain⟨h1,h2,_⟩:=hv
  have:=v_bool h1;subst this
  have:=v_bool h2;subst this
  cases neg
  ·subst hop
   refine Runs.pureS hr ?_ ⟨_,ha⟩ (.bool _)
   have h:=run_equalIn_bool' w 9999 t a b ht
   rw[eqGuard_at_bool]
   simp[binOp,Op.equal,Op.maxDepth]at h ⊢
   simp[h]
  ·subst hop
   refine Runs.pureS hr ?_ ⟨_,ha⟩ (.bool _)
   have h:=run_equalIn_bool' w 9999 t a b ht
   rw[eqGuard_at_bool]
   simp[binOp,Op.equal,Op.maxDepth]at h ⊢
   simp[h]
 ·cases ha
theorem un_runs {P:Program}{ρ:Rn}{g:G}{w:World}{n:Nat}{op:UnOp}{vs:List Value}{c:Value}{r:Res}
  (ha:aUn op vs=some r) (hv:VL ρ vs [c]) (hr:RelH P ρ g w):Runs P (vS (Op.unary op c)) ρ g w n r:=by
 unfold aUn at ha
 split at ha
 ·have:=v_int hv.1;subst this
  split at ha
  ·exact Runs.pureS hr (by simp[Op.unary,Op.intArith]) ⟨_,ha⟩ (.int _ _)
  ·exact Runs.pureS hr (by simp[Op.unary,bits2_run]) ⟨_,ha⟩ (.int _ _)
  ·cases ha
 ·have:=v_bool hv.1;subst this
  split at ha
  ·exact Runs.pureS hr (by simp[Op.unary]) ⟨_,ha⟩ (.bool _)
  ·cases ha
 ·cases ha
theorem pick_runs {P:Program}{ρ:Rn}{g:G}{w:World}{n:Nat}{vs:List Value}{c a b:Value}{r:Res}
  (ha:aPick vs=some r) (hv:VL ρ vs [c,a,b]) (hr:RelH P ρ g w):Runs P (do pure (.value (if ← asBool c then a else b))) ρ g w n r:=by
 unfold aPick at ha
 split at ha
 ·rename_i q a' b'
  obtain⟨h1,h2,h3,_⟩:=hv
  have:=v_bool h1;subst this
  have key:∃ ok,rv (cond q a' b') ok=some r:=by
   split at ha
   ·exact⟨_,by rw[← ha];cases q<;>rfl⟩
   ·exact⟨_,ha⟩
  obtain⟨ok,hk⟩:=key
  simp only[rv,Option.some.injEq]at hk;subst hk
  refine Runs.pure hr (c:=if q then a else b) (by simp[asBool]) ?_
  cases q
  ·exact h3
  ·exact h2
 ·cases ha
theorem conv_runs {P:Program}{ρ:Rn}{g:G}{w:World}{n s d:Nat} {k k':IntKind}{vs:List Value}{c:Value}{r:Res} (h1:P.underlying s=some (.int k')) (h2:P.underlying d=some (.int k))
  (ha:aConv k vs=some r) (hv:VL ρ vs [c]) (hr:RelH P ρ g w):Runs P (vS (convert s d c)) ρ g w n r:=by
 unfold aConv at ha
 split at ha
 ·have:=v_int hv.1;subst this
  exact Runs.pureS hr (by simp[convert,run_underlying h1,run_underlying h2,Conv.intToInt]) ⟨_,ha⟩ (.int _ _)
 ·cases ha
theorem same_runs {P:Program}{ρ:Rn}{g:G}{w:World}{n s d:Nat}{vs:List Value}{c:Value}{r:Res} (h1:P.underlying s=some .string) (h2:P.underlying d=some .string)
  (ha:aSame vs=some r) (hv:VL ρ vs [c]) (hr:RelH P ρ g w):Runs P (vS (convert s d c)) ρ g w n r:=by
 unfold aSame at ha
 split at ha
 ·have:=v_string hv.1;subst this
  exact Runs.pureS hr (by simp[convert,run_underlying h1,run_underlying h2]) ⟨_,ha⟩ (.string _)
 ·cases ha
theorem mkif_runs {P:Program}{ρ:Rn}{g:G}{w:World}{n t:Nat}{vs:List Value}{c:Value}{r:Res}{d:TypeDesc} (h1:P.underlying t=some d) (h2:∀ ms,d≠.interface ms)
  (ha:aMkif t vs=some r) (hv:VL ρ vs [c]) (hr:RelH P ρ g w):Runs P (vS (Instr.makeInterface t c)) ρ g w n r:=by
 unfold aMkif at ha
 split at ha
 ·refine Runs.pureS (c:=.iface t c) hr ?_ ⟨_,ha⟩ (.iface hv.1)
  unfold Instr.makeInterface
  simp only[Sem.run_bind,run_underlying h1,Result.andThen_ok]
  cases d<;>first|rfl|exact absurd rfl (h2 _)
 ·cases ha
theorem mkfunc_runs {P:Program}{ρ:Rn}{g:G}{w:World}{n:Nat}{fn:Fn}{vs:List Value}{xs ys:Array Value}{r:Res}
  (ha:rv (.func fn ⟨vs.take xs.size⟩ ⟨vs.drop xs.size⟩)=some r) (hv:VL ρ vs (xs.toList++ys.toList)) (hr:RelH P ρ g w):Runs P (vS (Instr.makeFunc fn xs ys)) ρ g w n r:=by
 refine Runs.pureS (c:=.func fn xs ys) hr (by simp[Instr.makeFunc]) ⟨_,ha⟩ ?_
 refine VL.func ?_ ?_
 ·have:=hv.take xs.size;simpa using this
 ·have:=hv.drop xs.size;simpa using this
theorem field_runs {P:Program}{ρ:Rn}{g:G}{w:World}{n t f off k:Nat}{lk:LK}{vs:List Value}{c:Value}{r:Res}{fs:Array Field}{fd:Field} (hu:P.underlying t=some (.struct fs))
  (hf:fs[f]?=some fd) (h1:lkT P fd.type=some lk) (h2:sizeT P fd.type=some k) (hoff:fd.offset=off)
  (ha:aField lk off k vs=some r) (hok:r.ok=true) (hv:VL ρ vs [c]) (hr:RelH P ρ g w):Runs P (vS (Instr.field t c f)) ρ g w n r:=by
 replace h1:=lkT_agg h1
 unfold aField at ha
 split at ha
 ·rename_i cs
  obtain⟨ds,rfl,hvl⟩:=v_agg hv.1
  obtain⟨_,hag,hna⟩:=readAt_some ha hok
  subst hoff
  have e:=hvl.length
  cases hla:lk.isAgg with
  |true =>
   rw[hla]at h1
   obtain⟨hle,hrv⟩:=hag hla
   refine Runs.pureS (c:=.agg (ds.extract fd.offset (fd.offset+k))) hr ?_ ⟨_,hrv⟩ (VL.agg ?_)
   ·simp[Instr.field,run_underlying hu,hf,part,asAgg,isAgg_run h1,sizeOf_run h2]
   ·have:=(hvl.drop fd.offset).take k
    simpa [slab,List.extract_eq_take_drop]using this
  |false =>
   rw[hla]at h1
   obtain⟨hlt,hrv⟩:=hna hla
   have hlt':fd.offset<ds.size:=by simpa [e]using hlt
   refine Runs.pureS (c:=ds[fd.offset]) hr ?_ ⟨_,hrv⟩ ?_
   ·simp[Instr.field,run_underlying hu,hf,part,asAgg,isAgg_run h1,hlt']
   ·exact hvl.get (getElem?_of_getD hlt) (by simp[hlt'])
 ·cases ha
theorem ext_runs {P:Program}{ρ:Rn}{g:G}{w:World}{n i:Nat}{vs:List Value}{c:Value}{r:Res}
  (ha:aExt i vs=some r) (hv:VL ρ vs [c]) (hr:RelH P ρ g w):Runs P (vS (Instr.extract c i)) ρ g w n r:=by
 unfold aExt at ha
 split at ha
 ·rename_i ts
  obtain⟨ds,rfl,hvl⟩:=v_tuple hv.1
  split at ha
  ·rename_i v hv'
   have hlt:=lt_of_get hv'
   have hlt':i<ds.size:=by simpa [hvl.length]using hlt
   exact Runs.pureS (c:=ds[i]) hr (by simp[Instr.extract,hlt']) ⟨_,ha⟩ (hvl.get hv' (by simp[hlt']))
  ·cases ha
 ·cases ha
theorem intRange_of {i:Int}{n:Nat} (h:intRange i n=true):0 ≤ i ∧ i<n:=by
 simpa [intRange]using h
theorem idxA_runs {P:Program}{ρ:Rn}{g:G}{w:World}{n t len e k:Nat}{lk:LK}{vs:List Value}{c d:Value}{r:Res} (hu:P.underlying t=some (.array len e))
  (h1:lkT P e=some lk) (h2:sizeT P e=some k) (ha:aIdxA len k lk vs=some r) (hok:r.ok=true) (hv:VL ρ vs [c,d]) (hr:RelH P ρ g w):Runs P (vS (Instr.index t c d)) ρ g w n r:=by
 replace h1:=lkT_agg h1
 unfold aIdxA at ha
 split at ha
 ·rename_i cs q i
  obtain⟨hv1,hv2,_⟩:=hv
  obtain⟨ds,rfl,hvl⟩:=v_agg hv1
  have:=v_int hv2;subst this
  obtain⟨hir,hag,hna⟩:=readAt_some ha hok
  obtain⟨hi0,hi1⟩:=intRange_of hir
  have e1:=hvl.length
  cases hla:lk.isAgg with
  |true =>
   rw[hla]at h1
   obtain⟨hle,hrv⟩:=hag hla
   refine Runs.pureS (c:=.agg (ds.extract (i.toNat*k) (i.toNat*k+k))) hr ?_ ⟨_,hrv⟩ (VL.agg ?_)
   ·simp[Instr.index,asIntOf,run_underlying hu,hi0,hi1,part,isAgg_run h1,sizeOf_run h2]
   ·have:=(hvl.drop (i.toNat*k)).take k
    simpa [slab,List.extract_eq_take_drop]using this
  |false =>
   rw[hla]at h1
   obtain⟨hlt,hrv⟩:=hna hla
   have hlt':i.toNat*k<ds.size:=by simpa [e1]using hlt
   refine Runs.pureS (c:=ds[i.toNat*k]) hr ?_ ⟨_,hrv⟩ ?_
   ·simp[Instr.index,asIntOf,run_underlying hu,hi0,hi1,part,isAgg_run h1,sizeOf_run h2,hlt']
   ·exact hvl.get (getElem?_of_getD hlt) (by simp[hlt'])
 ·cases ha
theorem byteAt_eq {s:ByteArray}{i:Nat} (h:i<s.size):byteAt s i=(s[i].toNat:Int):=by
 have h':i<s.data.toList.length:=by simpa using h
 unfold byteAt
 rw[List.getD_eq_getElem?_getD,List.getElem?_eq_getElem h']
 rfl
theorem idxStr_runs {P:Program}{ρ:Rn}{g:G}{w:World}{n t:Nat}{vs:List Value}{c d:Value}{r:Res} (hu:P.underlying t=some .string)
  (ha:aIdxStr vs=some r) (hok:r.ok=true) (hv:VL ρ vs [c,d]) (hr:RelH P ρ g w):Runs P (vS (Instr.index t c d)) ρ g w n r:=by
 unfold aIdxStr at ha
 split at ha
 ·rename_i s q i
  obtain⟨hv1,hv2,_⟩:=hv
  have:=v_string hv1;subst this
  have:=v_int hv2;subst this
  have ha':=ha
  simp only[rv,Option.some.injEq]at ha';subst ha'
  obtain⟨hi0,hi1⟩:=intRange_of hok
  have hlt:i.toNat<s.size:=by omega
  refine Runs.pureS hr ?_ ⟨_,ha⟩ (.int _ _)
  rw[run_index_string _ _ _ _ _ hu]
  simp[hi0,hi1,byteAt_eq hlt]
 ·cases ha
end Go.X
