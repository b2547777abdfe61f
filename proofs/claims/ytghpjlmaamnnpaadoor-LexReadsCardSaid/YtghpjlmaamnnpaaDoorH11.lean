import Derived.Test.YtghpjlmaamnnpaaDoorH10
import Derived.Orders
set_option linter.all false
namespace Go.X
open Go
theorem eqCells_same {ρ:Rn}:∀ (ks:List Nat) (xs ys xs' ys':List Value) (b:Bool),eqCells ks xs ys=some b → VL ρ xs xs' → VL ρ ys ys' → xs'=xs ∧ ys'=ys:=by
 intro ks
 induction ks with
 |nil =>
  intro xs ys xs' ys' b h hx hy
  have hl:=eqCells_len _ _ _ _ h
  have h1:=hx.length
  have h2:=hy.length
  simp at hl
  obtain⟨rfl,rfl⟩:=hl
  simp at h1 h2
  exact⟨List.length_eq_zero_iff.1 h1.symm,List.length_eq_zero_iff.1 h2.symm⟩
 |cons k ks ih =>
  intro xs ys xs' ys' b h hx hy
  unfold eqCells at h
  split at h
  ·rename_i heq;cases heq
  ·rename_i heq;cases heq
   split at h
   ·rename_i hc
    cases xs' with
    |nil=>exact hx.elim
    |cons x' xs'=>cases ys' with
     |nil=>exact hy.elim
     |cons y' ys' =>
      obtain⟨e1,e2⟩:=ih _ _ _ _ _ hc hx.2 hy.2
      rw[v_int hx.1,v_int hy.1,e1,e2]
      exact⟨rfl,rfl⟩
   ·cases h
  ·rename_i heq;cases heq
   split at h
   ·rename_i hc
    cases xs' with
    |nil=>exact hx.elim
    |cons x' xs'=>cases ys' with
     |nil=>exact hy.elim
     |cons y' ys' =>
      obtain⟨e1,e2⟩:=ih _ _ _ _ _ hc hx.2 hy.2
      rw[v_string hx.1,v_string hy.1,e1,e2]
      exact⟨rfl,rfl⟩
   ·cases h
  ·rename_i heq;cases heq
   split at h
   ·rename_i hc
    cases xs' with
    |nil=>exact hx.elim
    |cons x' xs'=>cases ys' with
     |nil=>exact hy.elim
     |cons y' ys' =>
      obtain⟨e1,e2⟩:=ih _ _ _ _ _ hc hx.2 hy.2
      rw[v_bool hx.1,v_bool hy.1,e1,e2]
      exact⟨rfl,rfl⟩
   ·cases h
  ·cases h
theorem eqagg_runs {P:Program}{ρ:Rn}{g:G}{w:World}{n:Nat}{op:BinOp}{neg:Bool}{ks:List Nat}{t:TypeId}{vs:List Value}{x y:Operand}{c d:Value}{r:Res}
  (hop:op=cond neg .neq .eql) (hk:eqT P 100 t=some ks) (ht:aggT P t=some true) (hg:P.eqGuardType P.depth t=false) (ha:aEqagg neg ks vs=some r) (hv:VL ρ vs [c,d]) (hr:RelH P ρ g w) :
  Runs P (vS (do eqGuard op t x y c d;binOp op t c d)) ρ g w n r:=by
 unfold aEqagg at ha
 split at ha
 ·rename_i a b
  obtain⟨h1,h2,_⟩:=hv
  obtain⟨a',rfl,hva⟩:=v_agg h1
  obtain⟨b',rfl,hvb⟩:=v_agg h2
  split at ha
  ·rename_i q hq
   obtain⟨e1,e2⟩:=eqCells_same _ _ _ _ _ _ hq hva hvb
   have e1:a'=a:=Array.ext' e1
   have e2:b'=b:=Array.ext' e2
   subst e1 e2
   have hrun:=eqT_run 100 t ks hk 10000 (by decide) w a'.toList b'.toList q (.agg a') (.agg b') hq (.inl ⟨ht,rfl⟩) (.inl ⟨ht,rfl⟩)
   have hgu:=run_eqGuard_agg (P:=P) w op t x y a' b' hg
   cases neg
   ·subst hop
    simp only[cond_false]at hgu ⊢
    exact Runs.pureS hr (by simp[hgu,run_eql_struct,hrun]) ⟨_,ha⟩ (.bool _)
   ·subst hop
    simp only[cond_true]at hgu ⊢
    exact Runs.pureS hr (by simp[hgu,run_neq_struct,hrun]) ⟨_,ha⟩ (.bool _)
  ·cases ha
 ·cases ha
theorem foldl_push_u8:∀ (ns:List Int) (s:ByteArray),ns.foldl (fun r n=>r.push (UInt8.ofNat n.toNat)) s=⟨s.data++(ns.map fun n=>UInt8.ofNat n.toNat).toArray⟩
 |[],s=>by simp
 |n :: ns,s=>by
  simp only[List.foldl_cons,List.map_cons]
  rw[foldl_push_u8 ns]
  simp[ByteArray.push]
theorem b2s_core {P:Program}{ρ:Rn}{w:World}{a:Addr}{len cap:Nat}{f:Nat → List Value}{N:Array Value} (hN:(loadCells a (len*1)).run P w=.ok N w) (hS:SrcAt ρ 1 len f N)
  (hu:((List.range len).all fun j=>isU8 (f j))=true) :
  (Conv.bytesToString (.slice (some a) len cap)).run P w=.ok (.string ⟨((List.range len).map fun j=>u8Of (f j)).toArray⟩) w:=by
 have hz:∃ z:Nat → Int,∀ j,j<len → f j=[.int .u8 (z j)]:=by
  refine⟨fun j=>match f j with|[.int .u8 n]=>n|_=>0,fun j hj=>?_⟩
  have:=List.all_eq_true.1 hu j (by simpa using hj)
  unfold isU8 at this
  split at this
  ·rename_i n hn;simp[hn]
  ·cases this
 obtain⟨z,hz⟩:=hz
 have hNe:N=(((List.range len).map z).map (Value.int .u8)).toArray:=by
  apply Array.ext
  ·simp[hS.1]
  ·intro i h1 h2
   have hi:i<len:=by simpa using h2
   obtain⟨u,hu',hv'⟩:=(hS.2 i hi).2 0 (.int .u8 (z i)) (by rw[hz i hi];rfl)
   have e:=v_int hv'.2
   subst e
   have h1':i*1+0<N.size:=by omega
   rw[Array.getElem?_eq_getElem h1']at hu'
   have e2:=Option.some.inj hu'
   simp only[Nat.mul_one,Nat.add_zero]at e2
   rw[e2]
   simp
 rw[hNe,Nat.mul_one]at hN
 rw[run_bytesToString w a len cap _ hN,foldl_push_u8]
 congr 3
 have e0:ByteArray.empty.data=#[]:=rfl
 rw[e0,Array.empty_append,List.map_map]
 congr 1
 apply List.map_congr_left
 intro j hj
 have hj:j<len:=by simpa using hj
 simp[hz j hj,u8Of]
theorem b2s_runs {P:Program}{ρ:Rn}{g:G}{w:World}{n s d e:Nat}{vs:List Value}{bs:List Blk}{c:Value}{r:Res} (h1:P.underlying s=some (.slice e)) (h2:P.underlying d=some .string) (h3:P.underlying e=some (.int .u8))
  (ha:aB2s vs bs=some r) (hok:r.ok=true) (hv:VL ρ vs [c]) (hr:RelH P ρ g w) (hb:GL g (hdId vs) bs):Runs P (vS (convert s d c)) ρ g w n r:=by
 rw[aB2s_eq]at ha
 unfold aB2s0 at ha
 split at ha
 ·obtain⟨rfl,_,_⟩:=v_snil hv.1
  refine Runs.pureS hr ?_ ⟨_,ha⟩ (.string _)
  rw[run_convert_bytes_string w s d e none 0 0 h1 h3 h2]
  simp[Conv.bytesToString]
 ·rename_i id idx len cap m st f o ro
  simp only[hdId,sliceId,GL,and_true]at hb
  have ha':=ha
  simp only[rv,Option.some.injEq]at ha';subst ha'
  simp only[Bool.and_eq_true]at hok
  obtain⟨⟨q1,q2⟩,q3⟩:=hok
  have q1:=ble_le q1
  have q2:=Nat.eq_of_beq_eq_true q2
  subst q2
  rcases v_slice hv.1 with⟨l,hl,rfl⟩|⟨rfl,rfl,a,rfl⟩
  ·obtain⟨l',hl',hh⟩:=hr.holds _ _ hb
   rw[hl]at hl';cases hl'
   obtain⟨N,hN,hS⟩:=run_loadCells_rows (P:=P) (w:=w) (k:=len) (by omega) (rows_cell hh q1)
   refine Runs.pureS hr ?_ ⟨_,ha⟩ (.string _)
   rw[run_convert_bytes_string w s d e _ _ _ h1 h3 h2]
   exact b2s_core hN hS q3
  ·refine Runs.pureS hr ?_ ⟨_,ha⟩ (.string _)
   rw[run_convert_bytes_string w s d e _ _ _ h1 h3 h2]
   exact b2s_core (ρ:=ρ) (f:=fun j=>f (idx+j)) (N:=#[]) (by simp[loadCells,loadCellsFrom]) ⟨by simp,fun j hj=>by omega⟩ q3
 ·rename_i id fo len cap cs
  simp only[hdId,sliceId,GL,and_true]at hb
  have ha':=ha
  simp only[rv,Option.some.injEq]at ha';subst ha'
  simp only[Bool.and_eq_true]at hok
  obtain⟨q1,q3⟩:=hok
  have q1:=ble_le q1
  rcases v_slicea hv.1 with⟨l,hl,rfl⟩|⟨rfl,rfl,a,rfl⟩
  ·obtain⟨l',hl',hh⟩:=hr.holds _ _ hb
   rw[hl]at hl';cases hl'
   obtain⟨⟨p1,_⟩,cc,e',lo,hi,p2,p3,p4,p5⟩:=hh
   obtain⟨N,hN,hS⟩:=run_loadCells_rows (P:=P) (w:=w) (ρ:=ρ) (a:=l.addr.add (0*l.stride+fo)) (k:=len) (size:=1) (f:=fun j=>slab cs (fo+j) 1) (by omega) (fun j hj=>by
    refine⟨slab_length (by omega),fun i v hi=>?_⟩
    obtain⟨u,hu,hvu⟩:=p5 _ v (slab_get hi)
    refine⟨u,?_,hvu⟩
    rw[addr_add_add,cell_in p2 p1,← hu]
    congr 1;omega)
   refine Runs.pureS hr ?_ ⟨_,ha⟩ (.string _)
   rw[run_convert_bytes_string w s d e _ _ _ h1 h3 h2]
   exact b2s_core hN hS q3
  ·refine Runs.pureS hr ?_ ⟨_,ha⟩ (.string _)
   rw[run_convert_bytes_string w s d e _ _ _ h1 h3 h2]
   exact b2s_core (ρ:=ρ) (f:=fun j=>slab cs (fo+j) 1) (N:=#[]) (by simp[loadCells,loadCellsFrom]) ⟨by simp,fun j hj=>by omega⟩ q3
 ·cases ha
theorem aggT_struct {P:Program}{t:TypeId}{fs:Array Field} (h:P.underlying t=some (.struct fs)):aggT P t=some true:=by unfold aggT;rw[h]
theorem aggT_array {P:Program}{t e:TypeId}{n:Nat} (h:P.underlying t=some (.array n e)):aggT P t=some true:=by unfold aggT;rw[h]
theorem nilOp_some {kind:Nat}{op:BinOp}{x y:Operand}{o:XOp} (h:nilOp kind op x y=some o):∃ neg,op=cond neg .neq .eql ∧ o=.eqnil kind neg x y:=by
 unfold nilOp at h
 split at h
 ·cases h;exact⟨false,rfl,rfl⟩
 ·cases h;exact⟨true,rfl,rfl⟩
 ·cases h
theorem bin_sound {P:Program}{op:BinOp} {t t':TypeId}{x y:Operand}{o:XOp}{vs:List Value}{bs:List Blk}{n hint:Nat}{r:Res}{e:Operand → Value}{ρ:Rn}{g:G}{w:World}
  (hc:compOp P (.binOp op t x y t')=some o) (ha:o.act vs bs n hint=some r) (hok:r.ok=true) (hv:VL ρ vs (o.opds.map e)) (hr:RelH P ρ g w) :
  Runs P (vS (do eqGuard op t x y (e x) (e y);binOp op t (e x) (e y))) ρ g w n r:=by
 simp only[compOp]at hc
 split at hc
 ·cases hc;exact bin_runs ha hok hv hr
 ·cases hc;exact bin_runs ha hok hv hr
 ·rename_i hu
  split at hc
  ·cases hc;exact eqb_runs rfl hu ha hv hr
  ·cases hc;exact eqb_runs rfl hu ha hv hr
  ·cases hc
 ·rename_i el hu
  obtain⟨neg,h1,rfl⟩:=nilOp_some hc
  exact eqnil_runs h1 (.inl ⟨rfl,_,hu⟩) ha hv hr
 ·rename_i el hu
  obtain⟨neg,h1,rfl⟩:=nilOp_some hc
  exact eqnil_runs h1 (.inr (.inl ⟨rfl,_,hu⟩)) ha hv hr
 ·rename_i a b hu
  obtain⟨neg,h1,rfl⟩:=nilOp_some hc
  exact eqnil_runs h1 (.inr (.inr (.inl ⟨rfl,_,_,hu⟩))) ha hv hr
 ·rename_i a b v hu
  obtain⟨neg,h1,rfl⟩:=nilOp_some hc
  exact eqnil_runs h1 (.inr (.inr (.inr (.inl ⟨rfl,_,_,_,hu⟩)))) ha hv hr
 ·rename_i m hu
  split at hc
  ·obtain⟨neg,h1,rfl⟩:=nilOp_some hc
   exact eqnil_runs h1 (.inr (.inr (.inr (.inr ⟨rfl,⟨_,hu⟩,.inl ⟨_,rfl⟩⟩)))) ha hv hr
  ·obtain⟨neg,h1,rfl⟩:=nilOp_some hc
   exact eqnil_runs h1 (.inr (.inr (.inr (.inr ⟨rfl,⟨_,hu⟩,.inr ⟨_,rfl⟩⟩)))) ha hv hr
  ·cases hc
 ·rename_i fs hu
  split at hc
  ·rename_i ks hk
   cases hg:P.eqGuardType P.depth t with
   |true=>simp[hg]at hc
   |false =>
    simp only[hg,cond_false]at hc
    split at hc
    ·cases hc;exact eqagg_runs rfl hk (aggT_struct hu) hg ha hv hr
    ·cases hc;exact eqagg_runs rfl hk (aggT_struct hu) hg ha hv hr
    ·cases hc
  ·cases hc
 ·rename_i m el hu
  split at hc
  ·rename_i ks hk
   cases hg:P.eqGuardType P.depth t with
   |true=>simp[hg]at hc
   |false =>
    simp only[hg,cond_false]at hc
    split at hc
    ·cases hc;exact eqagg_runs rfl hk (aggT_array hu) hg ha hv hr
    ·cases hc;exact eqagg_runs rfl hk (aggT_array hu) hg ha hv hr
    ·cases hc
  ·cases hc
 ·cases hc
theorem notInt_one {P:Program}:NotInt P []:=.inl rfl
theorem notInt_two {P:Program}{u:TypeId}{us:List TypeId}{d:TypeDesc} (h:P.underlying u=some d) (hk:∀ k,d≠.int k):NotInt P (u :: us):=.inr ⟨u,us,d,rfl,h,hk⟩
theorem builtin_sound {P:Program}{b:Builtin}{args:Array Operand}{ts:Array TypeId}{ty:TypeId}{cs:Array Bool}{o:XOp}{vs:List Value}{bs:List Blk}{n hint:Nat}{r:Res}{e:Operand → Value}{ρ:Rn}{g:G}{w:World}
  (hc:compOp P (.call { callee:=.builtin b,args,argTypes:=ts })=some o) (ha:o.act vs bs n hint=some r) (hok:r.ok=true) (hv:VL ρ vs (o.opds.map e)) (hr:RelH P ρ g w) (hn:ρ n=none) (hb:GL g (o.need vs) bs) :
  Runs P (builtin b ts ty cs (args.map e)) ρ g w n r:=by
 obtain⟨args⟩:=args
 obtain⟨ts⟩:=ts
 simp only[compOp]at hc
 split at hc
 ·rename_i x t us
  rw[show Array.map e ⟨[x]⟩=#[e x] by simp]
  split at hc
  ·rename_i el hu;cases hc
   exact lenS_runs (ts:=us) (ty:=ty) hu ha hv hr
  ·rename_i hu;cases hc
   exact lenStr_runs (ts:=us) (ty:=ty) hu ha hv hr
  ·rename_i k el hu;cases hc
   exact lenM_runs (ts:=us) (ty:=ty) hu ha hv hr hb
  ·cases hc
 ·rename_i s x t us
  rw[show Array.map e ⟨[s,x]⟩=#[e s,e x] by simp]
  split at hc
  ·rename_i el hu
   split at hc
   ·rename_i z i hz hi
    split at hc
    ·cases hp:decide (0<z.length)with
     |false=>simp[hp]at hc
     |true =>
      simp only[hp,cond_true,Option.some.injEq]at hc
      subst hc
      exact app_runs (us:=[]) (ty:=ty) hu notInt_one hz hi rfl (of_decide_eq_true hp) ha hok hv hr hn hb
    ·rename_i u us'
     split at hc
     ·cases hc
     ·rename_i d hd hnot
      cases hp:decide (0<z.length)with
      |false=>simp[hp]at hc
      |true =>
       simp only[hp,cond_true,Option.some.injEq]at hc
       subst hc
       exact app_runs (us:=u :: us') (ty:=ty) hu (notInt_two hnot fun k hk=>hd k (by rw[hk])) hz hi rfl (of_decide_eq_true hp) ha hok hv hr hn hb
     ·cases hc
   ·cases hc
  ·cases hc
 ·rename_i d s t us
  rw[show Array.map e ⟨[d,s]⟩=#[e d,e s] by simp]
  split at hc
  ·rename_i el hu
   split at hc
   ·rename_i m hm
    cases hp:decide (0<m)with
    |false=>simp[hp]at hc
    |true =>
     simp only[hp,cond_true,Option.some.injEq]at hc
     subst hc
     exact cpy_runs (ts:=us) (ty:=ty) hu hm (of_decide_eq_true hp) ha hok hv hr hb
   ·cases hc
  ·cases hc
 ·cases hc
  exact minmax_runs (ts:=⟨ts⟩) (ty:=ty) (isMax:=false) ha (by simpa [XOp.opds]using hv) hr
 ·cases hc
  exact minmax_runs (ts:=⟨ts⟩) (ty:=ty) (isMax:=true) ha (by simpa [XOp.opds]using hv) hr
 ·cases hc
theorem op_sound {P:Program}{op:Op}{dst:Option Tmp}{type:TypeId}{pos:String}{after:Array Edge}{guard:Option (Nat × Bool)}{o:XOp}{vs:List Value}{bs:List Blk}{n hint:Nat}{r:Res}{e:Operand → Value}{ρ:Rn}{g:G}{w:World}
  (hc:compOp P op=some o) (ha:o.act vs bs n hint=some r) (hok:r.ok=true) (hv:VL ρ vs (o.opds.map e)) (hr:RelH P ρ g w) (hn:ρ n=none) (hb:GL g (o.need vs) bs) :
  Runs P (execOp e ⟨dst,op,type,pos,after,guard⟩) ρ g w n r:=by
 cases op with
 |move x =>
  simp only[compOp,Option.some.injEq]at hc;subst hc
  have ha:aMv vs=some r:=ha
  unfold aMv at ha
  split at ha
  ·simp only[rv,Option.some.injEq]at ha;subst ha
   exact Runs.pure hr (by simp[execOp]) hv.1
  ·cases ha
 |assign x =>
  simp only[compOp,Option.some.injEq]at hc;subst hc
  have ha:aMv vs=some r:=ha
  unfold aMv at ha
  split at ha
  ·simp only[rv,Option.some.injEq]at ha;subst ha
   exact Runs.pure hr (by simp[execOp]) hv.1
  ·cases ha
 |pick c a b =>
  simp only[compOp,Option.some.injEq]at hc;subst hc
  exact pick_runs ha hv hr
 |alloc t =>
  simp only[compOp]at hc
  split at hc
  ·rename_i z hz
   cases hc
   cases ha
   exact new_runs hz hr hn
  ·cases hc
 |box t x =>
  simp only[compOp,Option.some.injEq]at hc;subst hc
  exact box_runs ha hv hr hn
 |build t parts =>
  simp only[compOp]at hc
  split at hc
  ·rename_i z fs hz hu
   split at hc
   ·rename_i ps hps
    cases hall:(fs.toList.all fun f=>(sizeT P f.type).isSome)with
    |false=>rw[hall]at hc;cases hc
    |true =>
     rw[hall]at hc
     simp only[cond_true,Option.some.injEq]at hc
     subst hc
     exact build_runs hz (.inl ⟨fs,hu,fun f hf=>List.all_eq_true.1 hall f hf,hps⟩) ha hv hr
   ·cases hc
  ·rename_i z len el hz hu
   split at hc
   ·rename_i s hs
    cases hc
    exact build_runs hz (.inr ⟨len,el,s,hu,hs,rfl⟩) ha hv hr
   ·cases hc
  ·cases hc
 |buildSlice t len parts =>
  simp only[compOp]at hc
  split at hc
  ·rename_i el hu
   split at hc
   ·rename_i z hz
    cases hp:decide (0<z.length)with
    |false=>rw[hp]at hc;cases hc
    |true =>
     rw[hp]at hc
     simp only[cond_true,Option.some.injEq]at hc
     subst hc
     exact mkslice_runs hu hz (of_decide_eq_true hp) ha hok hv hr hn
   ·cases hc
  ·cases hc
 |load t x =>
  simp only[compOp]at hc
  split at hc
  ·rename_i a k h1 h2
   cases hc
   exact load_runs h1 h2 ha hok hv hr hb
  ·cases hc
 |store t a x =>
  simp only[compOp]at hc
  split at hc
  ·rename_i k h2
   cases hc
   exact store_runs h2 ha hok hv hr hb
  ·cases hc
 |nilCheck x =>
  simp only[compOp,Option.some.injEq]at hc;subst hc
  exact nilck_runs (x:=x) rfl ha hv hr
 |binOp op t x y t'=>exact bin_sound hc ha hok hv hr
 |unOp op t x =>
  simp only[compOp,Option.some.injEq]at hc;subst hc
  exact un_runs ha hv hr
 |convert s d x =>
  simp only[compOp]at hc
  split at hc
  ·rename_i k k' h1 h2
   cases hc
   exact conv_runs h1 h2 ha hv hr
  ·rename_i h1 h2
   cases hc
   exact same_runs h1 h2 ha hv hr
  ·rename_i el h1 h2
   split at hc
   ·rename_i h3
    cases hc
    exact s2b_runs h1 h2 h3 ha hv hr hn
   ·cases hc
  ·rename_i el h1 h2
   split at hc
   ·rename_i h3
    cases hc
    exact b2s_runs h1 h2 h3 ha hok hv hr hb
   ·cases hc
  ·cases hc
 |makeInterface t x =>
  simp only[compOp]at hc
  split at hc
  ·cases hc
  ·rename_i d hd hnot
   cases hc
   exact mkif_runs hnot (fun ms hk=>hd ms (by rw[hk])) ha hv hr
  ·cases hc
 |makeFunc fn first captured =>
  simp only[compOp,Option.some.injEq]at hc;subst hc
  have ha:rv (.func fn ⟨vs.take first.size⟩ ⟨vs.drop first.size⟩)=some r:=ha
  exact mkfunc_runs (xs:=first.map e) (ys:=captured.map e) (by simpa using ha) (by simpa [XOp.opds]using hv) hr
 |makeMap t rs =>
  simp only[compOp]at hc
  split at hc
  ·rename_i k el hu
   split at hc
   ·rename_i kd z h1 h2
    cases hp:(vcells z).all okc1 with
    |false=>rw[hp]at hc;cases hc
    |true =>
     rw[hp]at hc
     simp only[cond_true,Option.some.injEq]at hc
     subst hc
     cases ha
     exact mkmap_runs h1 h2 hp hr hn
   ·cases hc
  ·cases hc
 |makeSlice t l c =>
  simp only[compOp]at hc
  split at hc
  ·rename_i el hu
   split at hc
   ·rename_i z i hz hi
    cases hp:decide (0<z.length)with
    |false=>rw[hp]at hc;cases hc
    |true =>
     rw[hp]at hc
     simp only[cond_true,Option.some.injEq]at hc
     subst hc
     exact mks_runs hu hz hi rfl (of_decide_eq_true hp) ha hok hv hr hn
   ·cases hc
  ·cases hc
 |slice t x lo hi mx =>
  cases mx with
  |some m=>simp[compOp]at hc
  |none =>
   simp only[compOp]at hc
   split at hc
   ·rename_i k el hu
    split at hc
    ·rename_i s hs
     cases hc
     exact slArr_runs hu hs ha hok hv hr
    ·cases hc
   ·rename_i hu
    cases hc
    exact slStr_runs hu ha hok hv hr
   ·rename_i el hu
    split at hc
    ·rename_i s hs
     cases hc
     exact slS_runs hu hs ha hok hv hr hb
    ·cases hc
   ·cases hc
 |fieldAddr s x f =>
  simp only[compOp]at hc
  split at hc
  ·rename_i fs hu
   split at hc
   ·rename_i fd hf
    split at hc
    ·rename_i k hk
     cases hc
     exact faddr_runs hu hf hk rfl ha hv hr
    ·cases hc
   ·cases hc
  ·cases hc
 |field s x f =>
  simp only[compOp]at hc
  split at hc
  ·rename_i fs hu
   split at hc
   ·rename_i fd hf
    split at hc
    ·rename_i a k h1 h2
     cases hc
     exact field_runs hu hf h1 h2 rfl ha hok hv hr
    ·cases hc
   ·cases hc
  ·cases hc
 |indexAddr t x i =>
  simp only[compOp]at hc
  split at hc
  ·rename_i k el hu
   split at hc
   ·rename_i s hs
    cases hc
    exact iaddrA_runs hu hs ha hok hv hr hb
   ·cases hc
  ·rename_i el hu
   split at hc
   ·rename_i s hs
    cases hc
    exact iaddrS_runs hu hs ha hok hv hr hb
   ·cases hc
  ·cases hc
 |index t x i =>
  simp only[compOp]at hc
  split at hc
  ·rename_i k el hu
   split at hc
   ·rename_i a s h1 h2
    cases hc
    exact idxA_runs hu h1 h2 ha hok hv hr
   ·cases hc
  ·rename_i hu
   cases hc
   exact idxStr_runs hu ha hok hv hr
  ·cases hc
 |lookup t m k ok =>
  simp only[compOp]at hc
  split at hc
  ·rename_i kt et hu
   split at hc
   ·rename_i kd z h1 h2
    cases hp:(vcells z).all okc1&&keyP P kt kd with
    |false=>rw[hp]at hc;cases hc
    |true =>
     rw[hp]at hc
     simp only[cond_true,Option.some.injEq]at hc
     subst hc
     rw[Bool.and_eq_true]at hp
     exact lookup_runs hu h1 hp.2 h2 hp.1 ha hok hv hr hb
   ·cases hc
  ·cases hc
 |mapUpdate t m k v =>
  simp only[compOp]at hc
  split at hc
  ·rename_i kt et hu
   split at hc
   ·rename_i kd h1
    cases hp:keyP P kt kd with
    |false=>rw[hp]at hc;cases hc
    |true =>
     rw[hp]at hc
     cases hc
     exact mapupd_runs hu h1 hp ha hok hv hr hb
   ·cases hc
  ·cases hc
 |insert t m k v =>
  simp only[compOp]at hc
  split at hc
  ·rename_i kt et hu
   split at hc
   ·rename_i kd h1
    cases hp:keyP P kt kd with
    |false=>rw[hp]at hc;cases hc
    |true =>
     rw[hp]at hc
     cases hc
     exact mapupd_runs hu h1 hp ha hok hv hr hb
   ·cases hc
  ·cases hc
 |extract x i =>
  simp only[compOp,Option.some.injEq]at hc;subst hc
  exact ext_runs ha hv hr
 |call c =>
  obtain⟨callee,args,ts⟩:=c
  cases callee with
  |builtin b =>
   show Runs P (builtin b ts type _ (args.map e)) ρ g w n r
   exact builtin_sound hc ha hok hv hr hn hb
  |value f=>simp[compOp]at hc
  |invoke a b=>simp[compOp]at hc
 |_=>simp[compOp]at hc
end Go.X
namespace Go.X
open Go
structure GoodN (P:Program) (ρ:Rn) (g:G) (w:World) (n:Nat) (upd:List (Nat × Option Blk)) (news:Nat) (ρ':Rn) (w':World):Prop where
 le:Le ρ ρ'
 new:∀ id,ρ id=none → ρ' id≠none → n ≤ id ∧ id<n+news
 rel:RelH P ρ' (gapply g upd) w'
 fr:Fr (Own ρ g) w w'
 own:∀ k,Own ρ' (gapply g upd) k → Own ρ g k ∨ w.heap.size ≤ k
def ADet (P:Program) (f:FuncId) (vs:List Value) (pre:Hp) (v:Value) (upd:List (Nat × Option Blk)) (n news:Nat):Prop :=
 plainFn P f=true ∧ (upd=[] → news=0) ∧
 ∀ ρ g w cargs,VL ρ vs cargs.toList → RelH P ρ g w → (∀ id∈fstL pre,g id=hget pre id) → (∀ id,n ≤ id → id<n+news → ρ id=none) → (∃ k,n+news ≤ k ∧ ρ k=none) →
  Calls P f cargs w fun
   | .returned c,w'=>∃ ρ',GoodN P ρ g w n upd news ρ' w' ∧ V ρ' v c
   |_,_=>False
def CEok (P:Program) (ce:CE):Prop :=
 ∀ i f vs h n pre v upd news ok pr,ce i f vs h n=some ⟨pre,v,upd,news,ok,pr⟩ → ok=true → pr → (∀ id∈fstL pre,hget h id=hget pre id) ∧ ADet P f vs pre v upd n news
def TV (ρ:Rn) (b:Bool) (v c:Value):Prop:=(b=true → V ρ v c) ∧ (b=false → c=undef)
theorem TV.mono {ρ ρ':Rn} (hl:Le ρ ρ'){b:Bool}{v c:Value} (h:TV ρ b v c):TV ρ' b v c:=⟨fun e=>(h.1 e).mono hl,h.2⟩
def TmR (ρ:Rn) (t:Tm) (tmps:Array Value):Prop:=∀ k b v,look t k=some (b,v) → ∃ c,tmps[k]?=some c ∧ TV ρ b v c
theorem TmR.mono {ρ ρ':Rn} (hl:Le ρ ρ'){t:Tm}{tmps:Array Value} (h:TmR ρ t tmps):TmR ρ' t tmps:=fun k b v e=>by
 obtain⟨c,hc,hv⟩:=h k b v e
 exact⟨c,hc,hv.mono hl⟩
theorem TmR.at {ρ:Rn}{t:Tm}{tmps:Array Value} (h:TmR ρ t tmps){k:Nat}{v:Value} (e:look t k=some (true,v)):∃ c,tmps[k]?=some c ∧ V ρ v c:=by
 obtain⟨c,hc,hv⟩:=h k true v e
 exact⟨c,hc,hv.1 rfl⟩
theorem ev_sound {ρ:Rn}{t:Tm}{a:Act}{x:Operand}{v:Value} (h:ev t x=some (true,v)) (ht:∀ k,x=.tmp k → ∀ v,look t k=some (true,v) → ∃ c,a.tmps[k]?=some c ∧ V ρ v c):V ρ v (a.eval x):=by
 cases x with
 |tmp k =>
  obtain⟨c,hc,hv⟩:=ht k rfl v h
  have:a.eval (.tmp k)=c:=by simp[Act.eval,hc]
  rw[this];exact hv
 |const u =>
  simp only[ev]at h
  cases ho:okc u with
  |false=>simp[ho]at h
  |true =>
   simp[ho]at h;subst h
   exact okc_self ho
 |func f =>
  simp only[ev,Option.some.injEq,Prod.mk.injEq,true_and]at h;subst h
  exact VL.func trivial trivial
 |global g=>cases h
theorem mem_slots {xs:List Operand}{k:Nat} (h:.tmp k∈xs):k∈slotsOf xs:=by
 induction xs with
 |nil=>cases h
 |cons x xs ih =>
  rcases List.mem_cons.1 h with e|e
  ·subst e;simp[slotsOf]
  ·cases x<;>simp[slotsOf,ih e]
theorem evs_sound {ρ:Rn}{t:Tm}{a:Act}:∀ {xs:List Operand}{vs:List Value},evs t xs=some (true,vs) →
  (∀ k∈slotsOf xs,∀ v,look t k=some (true,v) → ∃ c,a.tmps[k]?=some c ∧ V ρ v c) → VL ρ vs (xs.map a.eval)
 |[],vs,h,_=>by simp[evs]at h;subst h;trivial
 |x :: xs,vs,h,ht=>by
  simp only[evs]at h
  cases h1:ev t x with
  |none=>simp[h1]at h
  |some p =>
   cases h2:evs t xs with
   |none=>simp[h1,h2]at h
   |some q =>
    obtain⟨c,v⟩:=p
    obtain⟨d,us⟩:=q
    simp only[h1,h2,Option.some.injEq,Prod.mk.injEq,Bool.and_eq_true]at h
    obtain⟨⟨rfl,rfl⟩,rfl⟩:=h
    exact⟨ev_sound h1 fun k e=>ht k (mem_slots (by subst e;exact .head _)),evs_sound h2 fun k hk=>ht k (by cases x<;>simp[slotsOf,hk])⟩
theorem act_name {o:XOp}{vs:List Value}{bs:List Blk} {n n' hint:Nat}{r:Res} (h:o.act vs bs n hint=some r) (h0:r.news=0):o.act vs bs n' hint=some r:=by
 cases o with
 |new row=>simp[XOp.act]at h;subst h;simp at h0
 |mkmap kt et z=>simp[XOp.act]at h;subst h;simp at h0
 |box x =>
  have h:aBox n vs=some r:=h
  unfold aBox at h
  split at h
  ·rw[normL_eq]at h
   obtain⟨_,h⟩:=must_some h
   simp at h;subst h;simp at h0
  ·cases h
 |mkslice z l ps =>
  have h:aMkslice z l ps n vs=some r:=h
  unfold aMkslice at h
  split at h
  ·rw[normL_eq]at h
   obtain⟨_,h⟩:=must_some h
   simp at h;subst h;simp at h0
  ·cases h
 |s2b x =>
  have h:aS2b n vs=some r:=h
  unfold aS2b at h
  split at h
  ·simp at h;subst h;simp at h0
  ·cases h
 |mks z b l c =>
  have h:aMks z b n vs=some r:=h
  unfold aMks at h
  split at h
  ·simp at h;subst h;simp at h0
  ·cases h
 |app size bytes s x =>
  have h:actApp size bytes vs bs n hint=some r:=h
  show actApp size bytes vs bs n' hint=some r
  unfold actApp at h ⊢
  split at h
  ·split at h
   ·split at h
    ·simp[growIt]at h;subst h;simp at h0
    ·exact h
    ·simp[growIt]at h;subst h;simp at h0
    ·exact h
   ·exact h
  ·split at h
   ·simp only at h ⊢
    split at h
    ·simp[growIt]at h;subst h;simp at h0
    ·exact h
    ·unfold appPickN at h ⊢
     split at h
     ·exact h
     ·unfold appPick at h ⊢
      split at h
      ·simp[growIt]at h;subst h;simp at h0
      ·revert h
       cases hb:Nat.ble _ _ with
       |true=>simp only[cond_true];exact id
       |false=>simp only[cond_false];intro h;simp[growIt]at h;subst h;simp at h0
   ·exact h
  ·exact h
 |_=>exact h
def NU (r:Option Res):Prop:=∀ x,r=some x → x.upd=[] → x.news=0
theorem NU.none:NU none:=fun _ h=>by cases h
theorem NU.rv {v:Value}{ok:Bool}:NU (rv v ok):=fun _ h _=>by cases h;rfl
theorem NU.zero {v:Value}{upd:List (Nat × Option Blk)}{ok:Bool}:NU (some ⟨v,upd,0,ok⟩):=fun _ h _=>by cases h;rfl
theorem NU.cons {v:Value}{b:Nat × Option Blk}{upd:List (Nat × Option Blk)}{news:Nat}{ok:Bool}:NU (some ⟨v,b :: upd,news,ok⟩):=fun _ h h0=>by cases h;cases h0
theorem NU.must {b:Bool}{r:Option Res} (h:NU r):NU (must b r):=by cases b;exact .none;exact h
theorem NU.fz {v:Value}{k:Value → Option Res} (h:∀ v,NU (k v)):NU (fz v k):=by rw[fz_eq];exact h _
theorem NU.normL {l:List Value}{k:List Value → Option Res} (h:∀ l,NU (k l)):NU (normL l k):=by rw[normL_eq];exact h _
theorem NU.fzL {l:List Value}{k:List Value → Option Res} (h:∀ l,NU (k l)):NU (fzL l k):=by rw[fzL_eq];exact h _
theorem NU.readAt {lk:LK}{k:Nat}{dyn:Bool}{l:List Value}{i:Nat}{ok:Bool}:NU (readAt lk k dyn l i ok):=by
 cases dyn<;>cases lk<;>first|exact .rv|exact .must (.fz fun _=>.rv)|exact .must (.normL fun _=>.rv)
theorem NU.binI {op:BinOp}{k:IntKind}{x y:Int}:NU (binI op k x y):=by cases op<;>exact .rv
theorem NU.binS {op:BinOp}{x y:ByteArray}:NU (binS op x y):=by cases op<;>first|exact .rv|exact .none
theorem NU.sliceOf {size:Nat}{lo hi:Option Operand}{vs:List Value}{len cap:Nat}{f:Nat → Option Addr}:NU (sliceOf size lo hi vs len cap f):=by
 unfold X.sliceOf;split
 ·exact .zero
 ·exact .none
theorem act_nu {o:XOp}{vs:List Value}{bs:List Blk}{n hint:Nat}:NU (o.act vs bs n hint):=by
 cases o with
 |mv _=>show NU (aMv vs);unfold aMv;split<;>first|exact .rv|exact .none
 |pick _ _ _ =>
  show NU (aPick vs);unfold aPick;split
  ·split<;>exact .rv
  ·exact .none
 |new row=>exact .cons
 |box _ =>
  show NU (aBox n vs);unfold aBox;split
  ·exact .normL fun _=>.must .cons
  ·exact .none
 |build zero ps =>
  show NU (aBuild zero ps vs);unfold aBuild;split
  ·exact .normL fun _=>.rv
  ·exact .none
 |mkslice zero len ps =>
  show NU (aMkslice zero len ps n vs);unfold aMkslice;split
  ·exact .normL fun _=>.must .cons
  ·exact .none
 |load lk k _=>show NU (aLoad lk k vs bs);rw[aLoad_eq];unfold aLoad0;split<;>first|exact .readAt|exact .none
 |store k _ _ =>
  show NU (aStore k vs bs);rw[aStore_eq];unfold aStore0;split
  ·exact .normL fun _=>.must (.normL fun _=>.zero)
  ·exact .must (.fz fun _=>.fzL fun _=>.zero)
  ·exact .normL fun _=>.must (.normL fun _=>.zero)
  ·exact .none
 |nilck _=>show NU (aNilck vs);unfold aNilck;split<;>first|exact .rv|exact .none
 |bin op _ _ =>
  show NU (aBin op vs);unfold aBin;split
  ·split
   ·exact .binI
   ·exact .none
  ·exact .binS
  ·exact .none
 |eqb neg _ _=>show NU (aEqb neg vs);unfold aEqb;split<;>first|exact .rv|exact .none
 |eqnil kind neg _ _=>show NU (aEqnil kind neg vs);unfold aEqnil;repeat' split
                      all_goals first|exact .rv|exact .none
 |eqagg neg ks _ _=>show NU (aEqagg neg ks vs);unfold aEqagg;repeat' split
                    all_goals first|exact .rv|exact .none
 |un op _=>show NU (aUn op vs);unfold aUn;repeat' split
           all_goals first|exact .rv|exact .none
 |conv k _=>show NU (aConv k vs);unfold aConv;split<;>first|exact .rv|exact .none
 |same _=>show NU (aSame vs);unfold aSame;split<;>first|exact .rv|exact .none
 |s2b _=>show NU (aS2b n vs);unfold aS2b;split<;>first|exact .cons|exact .none
 |b2s _=>show NU (aB2s vs bs);rw[aB2s_eq];unfold aB2s0;split<;>first|exact .rv|exact .none
 |mkif t _=>show NU (aMkif t vs);unfold aMkif;split<;>first|exact .rv|exact .none
 |mkfunc fn k _=>exact .rv
 |mkmap kt et zero=>exact .cons
 |lookup kt et kd zero ok _ _ =>
  show NU (aLookup kt et kd zero ok vs bs);unfold aLookup;split
  ·exact .must .rv
  ·exact .rv
  ·exact .none
 |mapupd kt et kd _ _ _ =>
  show NU (aMapupd kt et kd vs bs);unfold aMapupd;split
  ·exact .must .zero
  ·exact .none
 |mks zero bytes _ _=>show NU (aMks zero bytes n vs);unfold aMks;split<;>first|exact .cons|exact .none
 |slS size _ lo hi =>
  show NU (aSlS size lo hi vs bs);unfold aSlS;split
  ·split<;>first|exact .rv|exact .none
  ·exact .must .sliceOf
  ·exact .sliceOf
  ·exact .none
 |slStr _ lo hi=>show NU (aSlStr lo hi vs);unfold aSlStr;repeat' split
                 all_goals first|exact .rv|exact .none
 |slArr k size _ lo hi=>show NU (aSlArr k size lo hi vs);unfold aSlArr;split<;>first|exact .sliceOf|exact .none
 |faddr off _=>show NU (aFaddr off vs);unfold aFaddr;split<;>first|exact .rv|exact .none
 |field lk off k _=>show NU (aField lk off k vs);unfold aField;split<;>first|exact .readAt|exact .none
 |iaddrS size _ _ =>
  show NU (aIaddrS size vs bs);unfold aIaddrS;split
  ·exact .must .rv
  ·exact .rv
  ·exact .none
 |iaddrA dyn len size _ _=>show NU (aIaddrA dyn len size bs vs);unfold aIaddrA;repeat' split
                           all_goals first|exact .rv|exact .none
 |idxA len size lk _ _=>show NU (aIdxA len size lk vs);unfold aIdxA;split<;>first|exact .readAt|exact .none
 |idxStr _ _=>show NU (aIdxStr vs);unfold aIdxStr;split<;>first|exact .rv|exact .none
 |ext _ i=>show NU (aExt i vs);unfold aExt;repeat' split
           all_goals first|exact .rv|exact .none
 |lenS _=>show NU (aLenS vs);unfold aLenS;split<;>first|exact .rv|exact .none
 |lenStr _=>show NU (aLenStr vs);unfold aLenStr;split<;>first|exact .rv|exact .none
 |lenM _=>show NU (aLenM vs bs);unfold aLenM;split<;>first|exact .rv|exact .none
 |app size bytes _ _ =>
  show NU (actApp size bytes vs bs n hint)
  unfold actApp
  split
  ·split
   ·split
    ·exact .cons
    ·exact .zero
    ·exact .cons
    ·exact .zero
   ·exact .none
  ·split
   ·simp only
    split
    ·exact .cons
    ·exact .zero
    ·rcases appPickN_or _ _ _ _ _ with e|e
     ·rw[e];exact .zero
     ·rw[e];exact .cons
   ·exact .none
  ·exact .none
 |cpy size _ _ =>
  show NU (actCpy size vs bs);unfold actCpy;repeat' split
  all_goals first|exact .zero|exact .none
 |minmax isMax _=>show NU (aMinmax isMax vs);unfold aMinmax;repeat' split
                  all_goals first|exact .rv|exact .none
end Go.X
