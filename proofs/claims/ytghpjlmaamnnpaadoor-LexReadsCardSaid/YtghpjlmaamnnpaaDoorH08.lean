import Derived.Test.YtghpjlmaamnnpaaDoorH07
set_option linter.all false
namespace Go.X
open Go
theorem Fr.mono {O O':Nat → Prop} {w w':World} (h:Fr O w w') (ho:∀ k,O k → O' k):Fr O' w w' :=
 ⟨h.os,h.tape,h.output,h.size,fun k hk hn=>h.block k hk fun hx=>hn (ho k hx)⟩
theorem mks_runs {P:Program}{ρ:Rn}{g:G}{w:World}{n t e bytes:Nat}{zero:List Value}{i:TypeInfo}{vs:List Value}{c d:Value}{r:Res}
  (hu:P.underlying t=some (.slice e)) (hz:zeroCells P e=some zero) (hi:P.info? e=some i) (hby:i.bytes=bytes) (hpos:0<zero.length) (ha:aMks zero bytes n vs=some r) (hok:r.ok=true)
  (hv:VL ρ vs [c,d]) (hr:RelH P ρ g w) (hn:ρ n=none):Runs P (vS (Instr.makeSlice t c d)) ρ g w n r:=by
 obtain⟨i',Z,h1,h2,h3,h4,h5⟩:=zeroCells_some hz
 rw[hi]at h1;cases h1
 unfold aMks at ha
 split at ha
 ·rename_i k l k' cc
  simp only[Option.some.injEq]at ha;subst ha
  simp only[Bool.and_eq_true,decide_eq_true_eq,maxGrow]at hok
  obtain⟨⟨q1,q2⟩,q3⟩:=hok
  obtain⟨hv1,hv2,_⟩:=hv
  have:=v_int hv1;subst this
  have:=v_int hv2;subst this
  subst hby
  have hc0:0 ≤ cc:=by omega
  obtain⟨m,rfl⟩:=Int.eq_ofNat_of_zero_le hc0
  have hm:m*(i.bytes+zero.length+1) ≤ 1099511627776:=by
   have:=of_decide_eq_true q3
   exact_mod_cast this
  have hm1:m*i.bytes ≤ m*(i.bytes+zero.length+1):=Nat.mul_le_mul_left m (by omega)
  have hm2:m*1 ≤ m*(i.bytes+zero.length+1):=Nat.mul_le_mul_left m (by omega)
  have hmb:(i.bytes:Int)*(m:Int) ≤ 281474976710656:=by
   have:i.bytes*m ≤ 281474976710656:=by rw[Nat.mul_comm];omega
   rw[← Int.natCast_mul];exact Int.ofNat_le.2 this
  have hrun:=run_make (P:=P) w t e i Z hu hi h2 k k' l (m:Int) q1 q2 hmb (by omega)
  have hZs:Z.cells.size=zero.length:=by rw[← h3];simp
  have hsz:((madeCells Z.cells ((m:Int).toNat*i.size)).size)=m*zero.length:=by rw[size_madeCells,h5];rfl
  refine⟨_,_,Good.rows (w':=w.alloc (.cells (madeCells Z.cells ((m:Int).toNat*i.size)) e)) (t:=e) (lo:=0) (hi:=0) (ex:=0) hr hn rfl rfl rfl (World.size_alloc _ _) (fun k hk=>heap_push_old w _ k hk)
   (heap_alloc_new _ _) (fun i _=>by omega) (fun _=>rfl) (by rw[hsz,Nat.add_zero];exact Nat.le_refl _) (fun j hj=>⟨rfl,fun o v ho=>?_⟩),.inl ⟨_,run_vS hrun,v_newrows (ex:=0)⟩⟩
  have hlt:=lt_of_get ho
  have hj:j<m:=by simpa using hj
  have hmul:j*zero.length+zero.length ≤ m*zero.length:=by
   have:=Nat.mul_le_mul_right zero.length (show j+1 ≤ m by omega)
   rwa [Nat.succ_mul]at this
  have hmod:(j*zero.length+o) % Z.cells.size=o:=by
   rw[hZs,Nat.mul_comm,Nat.mul_add_mod,Nat.mod_eq_of_lt hlt]
  have hoz:Z.cells[o]?=some v:=by rw[← Array.getElem?_toList,h3];exact ho
  have hos:o<Z.cells.size:=by omega
  refine⟨v,?_,okc1_one (List.all_eq_true.1 h4 v (List.mem_of_getElem? ho)),okc1_self (List.all_eq_true.1 h4 v (List.mem_of_getElem? ho))⟩
  unfold madeCells
  have hb:j*zero.length+o<m*i.size:=by rw[← h5];omega
  have hx:(Array.range ((m:Int).toNat*i.size))[j*zero.length+o]?=some (j*zero.length+o):=by
   simp[hb]
  rw[Array.getElem?_map,hx,Option.map_some,hmod,getElem!_pos Z.cells o hos]
  rw[Array.getElem?_eq_getElem hos]at hoz
  exact hoz
 ·cases ha
theorem s2b_runs {P:Program}{ρ:Rn}{g:G}{w:World}{n s d e:Nat}{vs:List Value}{c:Value}{r:Res} (h1:P.underlying s=some .string) (h2:P.underlying d=some (.slice e)) (h3:P.underlying e=some (.int .u8))
  (ha:aS2b n vs=some r) (hv:VL ρ vs [c]) (hr:RelH P ρ g w) (hn:ρ n=none):Runs P (vS (convert s d c)) ρ g w n r:=by
 unfold aS2b at ha
 split at ha
 ·rename_i str
  simp only[Option.some.injEq]at ha;subst ha
  have:=v_string hv.1;subst this
  have hrun:=run_bytes_of_string (P:=P) w s d e str h1 h2 h3
  have hge:=grownCap_ge w str.size 0 e
  have hsize:(bytesRow str (grownCap w str.size 0 e)).size=grownCap w str.size 0 e:=by
   simp[bytesRow];omega
  refine⟨_,_,Good.rows (w':=w.drew.alloc (.cells (bytesRow str (grownCap w str.size 0 e)) e ((bytesRow str (grownCap w str.size 0 e)).size,(bytesRow str (grownCap w str.size 0 e)).size+1)))
   (ex:=grownCap w str.size 0 e-str.size) hr hn rfl rfl rfl (by simp) (fun k hk=>heap_push_old w.drew _ k hk) (heap_alloc_new w.drew _) (fun i hi=>by rw[hsize];omega) (fun h=>by cases h) (by rw[hsize];omega)
   (fun j hj=>⟨rfl,fun o v ho=>?_⟩),.inl ⟨_,run_vS hrun,?_⟩⟩
  ·have hlt:=lt_of_get ho
   simp at hlt
   subst hlt
   simp at ho
   subst ho
   have hj':j<str.data.size:=hj
   refine⟨_,by rw[Nat.mul_one,Nat.add_zero];exact bytesRow_at str _ j hj',rfl,?_⟩
   rw[byteAt_eq hj]
   exact .int _ _
  ·have:=v_newrows (ρ:=ρ) (n:=n) (a:=w.heap.size) (st:=1) (ex:=grownCap w str.size 0 e-str.size) (len:=str.size) (cap:=str.size)
   rwa [show str.size+(grownCap w str.size 0 e-str.size)=grownCap w str.size 0 e by omega]at this
 ·cases ha
def SrcAt (ρ:Rn) (size k:Nat) (f:Nat → List Value) (N:Array Value):Prop :=
 N.size=k*size ∧ ∀ j,j<k → (f j).length=size ∧ ∀ o v,(f j)[o]?=some v → ∃ u,N[j*size+o]?=some u ∧ CV ρ v u
theorem run_loadCells_rows {P:Program}{ρ:Rn}{w:World}{a:Addr}{size k:Nat}{f:Nat → List Value} (hs:0<size)
  (h:∀ j,j<k → (f j).length=size ∧ ∀ o v,(f j)[o]?=some v → ∃ u,w.cell? (a.add (j*size+o))=some u ∧ CV ρ v u) :
  ∃ N,(loadCells a (k*size)).run P w=.ok N w ∧ SrcAt ρ size k f N:=by
 have hcell:∀ i,i<k*size → (w.cell? (a.add i)).isSome=true:=by
  intro i hi
  have hj:i / size<k:=by
   rw[Nat.div_lt_iff_lt_mul hs];exact hi
  have hm:i % size<size:=Nat.mod_lt _ hs
  obtain⟨hl,hh⟩:=h (i / size) hj
  obtain⟨u,hu,_⟩:=hh (i % size) ((f (i / size))[i % size]'(by omega)) (by simp)
  have:i / size*size+i % size=i:=by rw[Nat.mul_comm];exact Nat.div_add_mod i size
  rw[this]at hu
  simp[hu]
 have hrun:=run_loadCells (P:=P) (w:=w) a (k*size) (fun j=>(w.cell? (a.add j)).getD undef) (fun j hj=>by
  have:=hcell j hj
  cases hx:w.cell? (a.add j)with
  |none=>simp[hx]at this
  |some u=>rfl)
 refine⟨_,hrun,by simp,fun j hj=>⟨(h j hj).1,fun o v ho=>?_⟩⟩
 obtain⟨u,hu,hvu⟩:=(h j hj).2 o v ho
 have hlt:=lt_of_get ho
 rw[(h j hj).1]at hlt
 have hmul:j*size+size ≤ k*size:=by
  have:=Nat.mul_le_mul_right size (show j+1 ≤ k by omega)
  rwa [Nat.succ_mul]at this
 refine⟨u,?_,hvu⟩
 have hlt2:j*size+o<k*size:=by omega
 simp[hlt2,hu]
theorem rows_cell {P:Program}{ρ:Rn}{w:World}{l:L}{m st:Nat}{f:Nat → List Value}{o ro:Bool} (hh:Holds P ρ w l (.rows m st f o ro)){idx k:Nat} (h:idx+k ≤ m) :
  ∀ j,j<k → (f (idx+j)).length=st ∧ ∀ i v,(f (idx+j))[i]?=some v → ∃ u,w.cell? ((l.addr.add (idx*l.stride)).add (j*st+i))=some u ∧ CV ρ v u:=by
 intro j hj
 obtain⟨h1,h2,h3,h4⟩:=hh
 obtain⟨e1,e2⟩:=h3 (idx+j) (by omega)
 refine⟨e1,fun i v hv=>?_⟩
 obtain⟨u,hu,hvu⟩:=e2 i v hv
 refine⟨u,?_,hvu⟩
 rw[addr_add_add,h1,← Nat.add_assoc,← Nat.add_mul]
 exact hu
theorem src_run {P:Program}{ρ:Rn}{g:G}{w:World}{size k:Nat}{x X:Value}{bs:List Blk}{f:Nat → List Value} (h:srcRows size x bs=some (k,f,true)) (hs:0<size) (hv:V ρ x X) (hr:RelH P ρ g w)
  (hb:GL g (sliceId x) bs):(Builtin.lenOf X).run P w=.ok k w ∧ ∃ N,(Builtin.firstCells size k X).run P w=.ok N w ∧ SrcAt ρ size k f N:=by
 rw[srcRows_eq]at h
 unfold srcRows0 at h
 split at h
 ·simp only[Option.some.injEq,Prod.mk.injEq,and_true]at h
  obtain⟨rfl,rfl⟩:=h
  obtain⟨rfl,rfl,rfl⟩:=v_snil hv
  exact⟨by simp[Builtin.lenOf],#[],by simp[Builtin.firstCells],by simp[SrcAt]⟩
 ·rename_i s
  simp only[Option.some.injEq,Prod.mk.injEq]at h
  obtain⟨rfl,rfl,h1⟩:=h
  have:=Nat.eq_of_beq_eq_true h1;subst this
  have:=v_string hv;subst this
  refine⟨by simp[Builtin.lenOf],((s.extract 0 s.size).data.map fun b=>.int .u8 b.toNat),rfl,?_,fun j hj=>⟨rfl,fun o v ho=>?_⟩⟩
  ·simp
  ·have hlt:=lt_of_get ho
   simp at hlt
   subst hlt
   simp at ho
   subst ho
   refine⟨.int .u8 (s[j].toNat:Int),?_,rfl,by rw[byteAt_eq hj];exact .int _ _⟩
   have hj':j<s.data.size:=hj
   rw[Nat.mul_one,Nat.add_zero]
   have e0:s.extract 0 s.size=s:=by simp
   rw[e0,Array.getElem?_map,Array.getElem?_eq_getElem hj']
   rfl
 ·rename_i id idx len cap m st f' o ro
  simp only[Option.some.injEq,Prod.mk.injEq,Bool.and_eq_true]at h
  obtain⟨rfl,rfl,h1,h2⟩:=h
  have h1:=ble_le h1
  have h2:=Nat.eq_of_beq_eq_true h2
  simp only[sliceId,GL,and_true]at hb
  rcases v_slice hv with⟨l,hl,rfl⟩|⟨rfl,rfl,a,rfl⟩
  ·obtain⟨l',hl',hh⟩:=hr.holds _ _ hb
   rw[hl]at hl';cases hl'
   subst h2
   obtain⟨N,hN,hS⟩:=run_loadCells_rows (P:=P) (w:=w) (k:=len) hs (rows_cell hh h1)
   exact⟨by simp[Builtin.lenOf],N,by simpa [Builtin.firstCells]using hN,hS⟩
  ·exact⟨by simp[Builtin.lenOf],#[],by simp[Builtin.firstCells,loadCells,loadCellsFrom],by simp[SrcAt]⟩
 ·rename_i id fo len cap cs
  simp only[Option.some.injEq,Prod.mk.injEq]at h
  obtain⟨rfl,rfl,h1⟩:=h
  have h1:=ble_le h1
  simp only[sliceId,GL,and_true]at hb
  rcases v_slicea hv with⟨l,hl,rfl⟩|⟨rfl,rfl,a,rfl⟩
  ·obtain⟨l',hl',hh⟩:=hr.holds _ _ hb
   rw[hl]at hl';cases hl'
   obtain⟨⟨q1,_⟩,c,e,lo,hi,q2,q3,q4,q5⟩:=hh
   obtain⟨N,hN,hS⟩:=run_loadCells_rows (P:=P) (w:=w) (ρ:=ρ) (a:=l.addr.add (0*l.stride+fo)) (k:=len) (f:=fun j=>slab cs (fo+j*size) size) hs (fun j hj=>by
    have hmul:j*size+size ≤ len*size:=by
     have:=Nat.mul_le_mul_right size (show j+1 ≤ len by omega)
     rwa [Nat.succ_mul]at this
    refine⟨slab_length (by omega),fun i v hi=>?_⟩
    obtain⟨u,hu,hvu⟩:=q5 _ v (slab_get hi)
    refine⟨u,?_,hvu⟩
    rw[addr_add_add,cell_in q2 q1,← hu]
    congr 1;omega)
   exact⟨by simp[Builtin.lenOf],N,by simpa [Builtin.firstCells]using hN,hS⟩
  ·exact⟨by simp[Builtin.lenOf],#[],by simp[Builtin.firstCells,loadCells,loadCellsFrom],by simp[SrcAt]⟩
 ·rename_i id idx fo len cap m st f' o ro
  simp only[Option.some.injEq,Prod.mk.injEq,Bool.and_eq_true]at h
  obtain⟨rfl,rfl,h1,h2⟩:=h
  have h1:=blt_lt h1
  have h2:=ble_le h2
  simp only[sliceId,GL,and_true]at hb
  rcases v_slicea hv with⟨l,hl,rfl⟩|⟨rfl,rfl,a,rfl⟩
  ·obtain⟨l',hl',hh⟩:=hr.holds _ _ hb
   rw[hl]at hl';cases hl'
   obtain⟨q1,q2,q3,q4⟩:=hh
   obtain⟨e1,e2⟩:=q3 idx h1
   obtain⟨N,hN,hS⟩:=run_loadCells_rows (P:=P) (w:=w) (ρ:=ρ) (a:=l.addr.add (idx*l.stride+fo)) (k:=len) (f:=fun j=>slab (f' idx) (fo+j*size) size) hs (fun j hj=>by
    have hmul:j*size+size ≤ len*size:=by
     have:=Nat.mul_le_mul_right size (show j+1 ≤ len by omega)
     rwa [Nat.succ_mul]at this
    refine⟨slab_length (by omega),fun i v hi=>?_⟩
    obtain⟨u,hu,hvu⟩:=e2 _ v (slab_get hi)
    refine⟨u,?_,hvu⟩
    rw[addr_add_add,q1,← hu]
    congr 2;omega)
   exact⟨by simp[Builtin.lenOf],N,by simpa [Builtin.firstCells]using hN,hS⟩
  ·exact⟨by simp[Builtin.lenOf],#[],by simp[Builtin.firstCells,loadCells,loadCellsFrom],by simp[SrcAt]⟩
 ·cases h
theorem minmax_runs {P:Program}{ρ:Rn}{g:G}{w:World}{n:Nat}{ts:Array TypeId}{ty:TypeId}{isMax:Bool}{vs:List Value}{cs:Array Value}{r:Res} (ha:aMinmax isMax vs=some r) (hv:VL ρ vs cs.toList) (hr:RelH P ρ g w) :
  Runs P (vS (if isMax then Builtin.max_ ts ty cs else Builtin.min_ ts ty cs)) ρ g w n r:=by
 unfold aMinmax at ha
 split at ha
 ·rename_i k x vs'
  split at ha
  ·rename_i v hfold
   have gen:∀ (vs':List Value) (cs':List Value) (x:Int) (v:Value),VL ρ vs' cs' → foldMM isMax k x vs'=some v →
     (cs'.foldlM (if isMax then Builtin.max2 else Builtin.min2) (.int k x):Sem Value).run P w=.ok v w ∧ V ρ v v:=by
    intro vs'
    induction vs' with
    |nil =>
     intro cs' x v hv hf
     cases cs' with
     |nil=>simp[foldMM]at hf;subst hf;simp;exact .int _ _
     |cons=>exact hv.elim
    |cons a vs' ih =>
     intro cs' x v hv hf
     cases cs' with
     |nil=>exact hv.elim
     |cons c cs' =>
      cases a<;>simp only[foldMM,reduceCtorEq]at hf
      rename_i k' y
      have:=v_int hv.1;subst this
      obtain⟨h1,h2⟩:=ih cs' _ v hv.2 hf
      refine⟨?_,h2⟩
      simp only[List.foldlM_cons,Sem.run_bind]
      cases isMax
      ·simp[Builtin.min2]at h1 ⊢;exact h1
      ·simp[Builtin.max2]at h1 ⊢;exact h1
   obtain⟨csl⟩:=cs
   cases csl with
   |nil=>exact hv.elim
   |cons c cs' =>
    have:=v_int hv.1;subst this
    obtain⟨h1,h2⟩:=gen vs' cs' x v hv.2 hfold
    refine Runs.pureS hr ?_ ⟨_,ha⟩ h2
    cases isMax
    ·simpa [Builtin.min_]using h1
    ·simpa [Builtin.max_]using h1
  ·cases ha
 ·cases ha
end Go.X
namespace Go.X
open Go
def NotInt (P:Program) (us:List TypeId):Prop:=us=[] ∨ ∃ u us' d,us=u :: us' ∧ P.underlying u=some d ∧ ∀ k,d≠.int k
theorem run_app_room {P:Program} {w w':World}{t ty e n sLen sCap:Nat}{a:Option Addr}{us:List TypeId}{X:Value}{i:TypeInfo}{N:Array Value} (hu:P.underlying t=some (.slice e)) (hus:NotInt P us)
  (hi:P.info? e=some i) (hlen:(Builtin.lenOf X).run P w=.ok n w) (hN:(Builtin.firstCells i.size n X).run P w=.ok N w) (hroom:sLen+n ≤ sCap)
  (hst:∀ b,a=some b → (storeCells (b.add (sLen*i.size)) N.toList).run P w=.ok () w') (hno:a=none → w'=w) :
  (Builtin.append_ ⟨t :: us⟩ ty #[.slice a sLen sCap,X]).run P w=.ok (.slice a (sLen+n) sCap) w':=by
 rcases hus with rfl|⟨u,us',d,rfl,hd,hk⟩
 ·cases a with
  |none=>simp[Builtin.append_,run_underlying hu,sizeOf,typeInfo,hi,hlen,hroom,hN,hno]
  |some b=>simp[Builtin.append_,run_underlying hu,sizeOf,typeInfo,hi,hlen,hroom,hN,hst]
 ·cases a with
  |none=>simp[Builtin.append_,run_underlying hu,run_underlying hd,sizeOf,typeInfo,hi,hlen,hroom,hN,hno]
  |some b=>simp[Builtin.append_,run_underlying hu,run_underlying hd,sizeOf,typeInfo,hi,hlen,hroom,hN,hst]
theorem run_app_grow {P:Program}{w:World}{t ty e n sLen sCap:Nat}{a:Option Addr}{us:List TypeId}{X Z:Value}{i:TypeInfo}{O N:Array Value} (hu:P.underlying t=some (.slice e)) (hus:NotInt P us)
  (hi:P.info? e=some i) (hz:i.zero=some Z) (hlen:(Builtin.lenOf X).run P w=.ok n w) (hO:(Builtin.firstCells i.size sLen (.slice a sLen sCap)).run P w.drew=.ok O w.drew)
  (hN:(Builtin.firstCells i.size n X).run P w.drew=.ok N w.drew) (hg:sCap<sLen+n) (hb:(sLen+n)*(i.bytes+i.size+1) ≤ maxGrow) :
  (Builtin.append_ ⟨t :: us⟩ ty #[.slice a sLen sCap,X]).run P w=.ok (.slice (some ⟨w.heap.size,0,none⟩) (sLen+n) (grownCap w (sLen+n) sCap e))
   (w.drew.alloc (.cells (O++N++Builtin.zeroCells Z.cells (grownCap w (sLen+n) sCap e-(sLen+n))) e)):=by
 unfold maxGrow at hb
 have hm1:(sLen+n)*i.bytes ≤ (sLen+n)*(i.bytes+i.size+1):=Nat.mul_le_mul_left _ (by omega)
 have hm2:(sLen+n)*1 ≤ (sLen+n)*(i.bytes+i.size+1):=Nat.mul_le_mul_left _ (by omega)
 have hn:¬ (sLen+n ≤ sCap):=by omega
 have h63:¬ (9223372036854775807<((sLen:Int)+(n:Int))):=by omega
 have h48:¬ (281474976710656<Builtin.nextslicecap (sLen+n) sCap*i.bytes):=by
  have:=growslice_fits (need:=sLen+n) (old:=sCap) (bytes:=i.bytes) (by omega) (by omega)
  omega
 rcases hus with rfl|⟨u,us',d,rfl,hd,hk⟩
 ·simp[Builtin.append_,run_underlying hu,sizeOf,typeInfo,zeroValue,hi,hz,hlen,hn,h63,h48,Question.forced,hO,hN,newRow,grownCap]
 ·simp[Builtin.append_,run_underlying hu,run_underlying hd,sizeOf,typeInfo,zeroValue,hi,hz,hlen,hn,h63,h48,Question.forced,hO,hN,newRow,grownCap]
theorem SrcAt.cat {ρ:Rn}{size m k idx:Nat}{f g:Nat → List Value}{O N:Array Value} (h:SrcAt ρ size m (fun j=>f (idx+j)) O) (h':SrcAt ρ size k g N):SrcAt ρ size (m+k) (rowCat f idx m g) (O++N):=by
 refine⟨by simp[h.1,h'.1,Nat.add_mul],fun j hj=>?_⟩
 unfold rowCat
 by_cases hjm:j<m
 ·have e:Nat.blt j m=true:=Nat.ble_eq_true_of_le hjm
  rw[e,cond_true]
  obtain⟨h1,h2⟩:=h.2 j hjm
  refine⟨h1,fun o v ho=>?_⟩
  obtain⟨u,hu,hv⟩:=h2 o v ho
  refine⟨u,?_,hv⟩
  have hlt:j*size+o<O.size:=by
   rcases Nat.lt_or_ge (j*size+o) O.size with h|h
   ·exact h
   ·simp[Array.getElem?_eq_none h]at hu
  rw[Array.getElem?_append_left hlt];exact hu
 ·have e:Nat.blt j m=false:=by
   cases hb:Nat.blt j m with
   |false=>rfl
   |true=>exact absurd (blt_lt hb) hjm
  rw[e,cond_false]
  obtain⟨h1,h2⟩:=h'.2 (j-m) (by omega)
  refine⟨h1,fun o v ho=>?_⟩
  obtain⟨u,hu,hv⟩:=h2 o v ho
  refine⟨u,?_,hv⟩
  have hmul:m*size ≤ j*size:=Nat.mul_le_mul_right size (by omega)
  have hsub:(j-m)*size=j*size-m*size:=Nat.sub_mul ..
  rw[Array.getElem?_append_right (by rw[h.1];omega),h.1,← hu]
  congr 1;omega
theorem Good.grown {P:Program}{ρ:Rn} {g g':G}{w:World}{n total st:Nat}{f:Nat → List Value}{M:Array Value}{zc:Array Value} {e cap':Nat}{dels:List (Nat × Option Blk)}
  (hr:RelH P ρ g w) (hn:ρ n=none) (hdels:gapply g dels=g') (hsub:∀ id b,g' id=some b → g id=some b) (hsrc:SrcAt ρ st total f M) (_hcap:total ≤ cap') (hz:zc.size=(cap'-total)*st) :
  Good P ρ g w n ((n,some (.rows total st f true false)) :: dels) 1 (rset ρ n ⟨⟨w.heap.size,0,none⟩,st,cap'-total⟩) (w.drew.alloc (.cells (M++zc) e)):=by
 have h0:=Good.rows (P:=P) (w':=w.drew.alloc (.cells (M++zc) e)) (t:=e) (lo:=0) (hi:=0) (ex:=cap'-total) (m:=total) (f:=f) (opn:=true) (hr.sub hsub) hn rfl rfl rfl (by simp) (fun k hk=>heap_push_old w.drew _ k hk)
  (heap_alloc_new w.drew _) (fun i _=>by omega) (fun h=>by cases h) (by simp[hsrc.1,hz,Nat.add_mul]) (fun j hj=>⟨(hsrc.2 j hj).1,fun o v ho=>by
   obtain⟨u,hu,hv⟩:=(hsrc.2 j hj).2 o v ho
   refine⟨u,?_,hv⟩
   have hlt:j*st+o<M.size:=by
    rcases Nat.lt_or_ge (j*st+o) M.size with h|h
    ·exact h
    ·simp[Array.getElem?_eq_none h]at hu
   rw[Array.getElem?_append_left hlt];exact hu⟩)
 have hown:∀ k,Own ρ g' k → Own ρ g k:=by
  rintro k ⟨id,b,l,h1,h2,h3,h4⟩
  exact⟨id,b,l,hsub id b h1,h2,h3,h4⟩
 refine⟨h0.le,h0.new,?_,h0.fr.mono hown,fun k hk=>?_⟩
 ·have:=h0.rel
  simp only[gapply]at this ⊢
  rw[hdels];exact this
 ·simp only[gapply]at hk
  rw[hdels]at hk
  rcases h0.own k hk with h|h
  ·exact .inl (hown k h)
  ·exact .inr h
theorem putAt_rows {ρ:Rn}{size k:Nat}{f:Nat → List Value}{N:Array Value}{c:List Value}{off:Nat} (hsrc:SrcAt ρ size k f N) (hc:off+k*size ≤ c.length) :
  (∀ j,j<k → ∀ o v,(f j)[o]?=some v → ∃ u,(putAt c off N.toList)[off+(j*size+o)]?=some u ∧ CV ρ v u) ∧
  ∀ i,(i<off ∨ off+k*size ≤ i) → (putAt c off N.toList)[i]?=c[i]?:=by
 have hl:N.toList.length=k*size:=by simpa using hsrc.1
 refine⟨fun j hj o v ho=>?_,fun i hi=>?_⟩
 ·obtain⟨u,hu,hv⟩:=(hsrc.2 j hj).2 o v ho
  have hlt:j*size+o<N.size:=by
   rcases Nat.lt_or_ge (j*size+o) N.size with h|h
   ·exact h
   ·simp[Array.getElem?_eq_none h]at hu
  refine⟨u,?_,hv⟩
  rw[putAt_get _ _ _ _ (by omega),if_pos (by simp at hl;simp;omega)]
  rw[show off+(j*size+o)-off=j*size+o by omega]
  simpa using hu
 ·rw[putAt_get _ _ _ _ (by omega),if_neg (by omega)]
theorem src_ones {ρ:Rn}{size k:Nat}{f:Nat → List Value}{N:Array Value} (hs:0<size) (hsrc:SrcAt ρ size k f N):∀ c∈N.toList,c.oneCell'=true:=by
 intro c hc
 rw[List.mem_iff_getElem?]at hc
 obtain⟨i,hi⟩:=hc
 have hlt:=lt_of_get hi
 have hsz:N.toList.length=k*size:=by simpa using hsrc.1
 have hj:i / size<k:=by rw[Nat.div_lt_iff_lt_mul hs];omega
 have hm:i % size<size:=Nat.mod_lt _ hs
 obtain⟨h1,h2⟩:=hsrc.2 (i / size) hj
 obtain⟨u,hu,hv⟩:=h2 (i % size) ((f (i / size))[i % size]'(by omega)) (by simp)
 have:i / size*size+i % size=i:=by rw[Nat.mul_comm];exact Nat.div_add_mod i size
 rw[this]at hu
 have:c=u:=by
  rw[← Array.getElem?_toList,hi]at hu;exact Option.some.inj hu
 rw[this]
 exact isOne_conc hv.2 hv.1
theorem store_rows {P:Program}{w:World}{ρ:Rn}{l:L}{m st k at_:Nat}{f:Nat → List Value}{opn:Bool}{src:Nat → List Value}{N:Array Value} (hh:Holds P ρ w l (.rows m st f opn false)) (hs:0<st)
  (hsrc:SrcAt ρ st k src N) (hat:at_+k ≤ m+l.extra) :
  ∃ w' c' e lo hi,(storeCells ((l.addr.add (at_*st))) N.toList).run P w=.ok () w' ∧ w'.os=w.os ∧ w'.tape=w.tape ∧ w'.output=w.output ∧ w'.heap.size=w.heap.size ∧
   (∀ b,b≠l.addr.block → w'.heap[b]?=w.heap[b]?) ∧ w'.heap[l.addr.block]?=some (.cells c' e (lo,hi)) ∧ l.addr.off+(m+l.extra)*st ≤ c'.size ∧
   (∀ i,l.addr.off ≤ i → i<l.addr.off+(m+l.extra)*st → ¬ (lo ≤ i ∧ i<hi)) ∧ l.addr.spot=none ∧
   (∀ j,j<k → ∀ o v,(src j)[o]?=some v → ∃ u,c'[l.addr.off+((at_+j)*st+o)]?=some u ∧ CV ρ v u) ∧
   (∀ j,j<m → (j<at_ ∨ at_+k ≤ j) → ∀ o v,(f j)[o]?=some v → ∃ u,c'[l.addr.off+(j*st+o)]?=some u ∧ CV ρ v u):=by
 obtain⟨p1,p2,p3,p4⟩:=hh
 obtain⟨cc,e,lo,hi,q2,q1,q3,q4⟩:=p4 rfl
 have hmul:(at_+k)*st ≤ (m+l.extra)*st:=Nat.mul_le_mul_right st hat
 have hNl:N.toList.length=k*st:=by simpa using hsrc.1
 have hadd:(at_+k)*st=at_*st+k*st:=Nat.add_mul ..
 have hst:=run_storeCells (P:=P) (a:=l.addr.add (at_*st)) N.toList 0 w (src_ones hs hsrc) (fun j _ hj=>by
  rw[addr_add_add]
  refine⟨?_,frozen_in q2 _ (q4 _ (by omega) (by omega))⟩
  rw[cell_in q2 q1]
  have:l.addr.off+(at_*st+j)<cc.size:=by omega
  simp[this])
 obtain⟨g1,g2,g3,g4,g5,g6⟩:=storeList_heap (addr_add_spot (at_*st) q1) N.toList 0 w cc (by rw[addr_add_block];exact q2) (by rw[addr_add_off];omega)
 rw[addr_add_block]at g1 g2
 rw[addr_add_off,Nat.add_zero]at g1
 obtain⟨r1,r2⟩:=putAt_rows (c:=cc.toList) (off:=l.addr.off+at_*st) hsrc (by simp;omega)
 have hlen:(putAt cc.toList (l.addr.off+at_*st) N.toList).length=cc.size:=by
  rw[putAt_length _ _ _ (by simp at hNl ⊢;omega)];simp
 refine⟨_,_,e,lo,hi,hst,g4,g5,g6,g3,g2,g1,by show _ ≤ (putAt _ _ _).length;omega,q4,q1,fun j hj o v ho=>?_,fun j hj hout o v ho=>?_⟩
 ·obtain⟨u,hu,hv⟩:=r1 j hj o v ho
  refine⟨u,?_,hv⟩
  rw[← Array.getElem?_toList,← hu]
  congr 1
  rw[Nat.add_mul];omega
 ·obtain⟨e1,e2⟩:=p3 j hj
  obtain⟨u,hu,hv⟩:=e2 o v ho
  rw[cell_in q2 q1]at hu
  have hlt:=lt_of_get ho
  refine⟨u,?_,hv⟩
  rw[← Array.getElem?_toList]
  show(putAt _ _ _)[_]?=_
  rw[r2 _ ?_]
  ·simpa using hu
  ·rcases hout with h|h
   ·have:=Nat.mul_le_mul_right st (show j+1 ≤ at_ by omega)
    rw[Nat.succ_mul]at this
    omega
   ·have:=Nat.mul_le_mul_right st h
    omega
theorem Good.moved {P:Program}{ρ:Rn}{g:G} {w w':World}{n id:Nat} {l l':L} {b b':Blk} (hr:RelH P ρ g w) (hn:ρ n=none) (hg:g id=some b) (hro:b.ro=false)
  (hl:ρ id=some l) (hll:l'.addr.block=l.addr.block) (hos:w'.os=w.os) (htape:w'.tape=w.tape) (hout:w'.output=w.output) (hsz:w'.heap.size=w.heap.size)
  (hold:∀ k,k≠l.addr.block → w'.heap[k]?=w.heap[k]?) (hb:Holds P (rset ρ n l') w' l' b') :
  Good P ρ g w n [(n,some b'),(id,none)] 1 (rset ρ n l') w':=by
 have hne:id≠n:=by rintro rfl;rw[hn]at hl;cases hl
 have hgn:∀ k,k≠n → gapply g [(n,some b'),(id,none)] k=if k=id then none else g k:=by
  intro k hk
  simp only[gapply]
  rw[gset_ne _ _ hk]
  by_cases e:k=id
  ·subst e;rw[gset_same,if_pos rfl]
  ·rw[gset_ne _ _ e,if_neg e]
 have hgnn:gapply g [(n,some b'),(id,none)] n=some b':=by simp only[gapply];rw[gset_same]
 refine⟨le_rset l' hn,fun k h0 h1=>?_,⟨fun k c hk=>?_,fun k c k' c' m m' hk hk' hne2 hr2 ht hm hm'=>?_⟩,⟨hos,htape,hout,by omega,fun k _ hk=>hold k ?_⟩,?_⟩
 ·by_cases e:k=n
  ·exact⟨e,rfl⟩
  ·rw[rset_ne _ _ e]at h1;exact absurd h0 h1
 ·by_cases e:k=n
  ·subst e
   rw[hgnn]at hk;cases hk
   exact⟨l',rset_same _ _ _,hb⟩
  ·rw[hgn k e]at hk
   split at hk
   ·cases hk
   ·rename_i hid
    obtain⟨m,hm,hh⟩:=hr.holds k c hk
    refine⟨m,by rw[rset_ne _ _ e];exact hm,hh.stay (le_rset l' hn) fun ht=>hold _ ?_⟩
    exact fun hx=>hr.sep id b k c l m hg hk (Ne.symm hid) hro ht hl hm hx.symm
 ·by_cases e:k=n
  ·subst e
   rw[rset_same]at hm;cases hm
   rw[hgn k' (Ne.symm hne2)]at hk'
   split at hk'
   ·cases hk'
   ·rename_i hid
    rw[rset_ne _ _ (Ne.symm hne2)]at hm'
    rw[hll]
    exact hr.sep id b k' c' l m' hg hk' (Ne.symm hid) hro ht hl hm'
  ·rw[hgn k e]at hk
   split at hk
   ·cases hk
   ·rename_i hid
    rw[rset_ne _ _ e]at hm
    by_cases e':k'=n
    ·subst e'
     rw[rset_same]at hm';cases hm'
     rw[hll]
     exact hr.sep k c id b m l hk hg hid hr2 (touch_of_rw hro) hm hl
    ·rw[hgn k' e']at hk'
     split at hk'
     ·cases hk'
     ·rw[rset_ne _ _ e']at hm'
      exact hr.sep k c k' c' m m' hk hk' hne2 hr2 ht hm hm'
 ·rintro rfl
  exact hk ⟨id,b,l,hg,hro,hl,rfl⟩
 ·rintro k ⟨k',c,m,hg',hr',hm,rfl⟩
  refine .inl ?_
  by_cases e:k'=n
  ·subst e
   rw[rset_same]at hm;cases hm
   rw[hll]
   exact⟨id,b,l,hg,hro,hl,rfl⟩
  ·rw[hgn k' e]at hg'
   split at hg'
   ·cases hg'
   ·rw[rset_ne _ _ e]at hm
    exact⟨k',c,m,hg',hr',hm,rfl⟩
end Go.X
