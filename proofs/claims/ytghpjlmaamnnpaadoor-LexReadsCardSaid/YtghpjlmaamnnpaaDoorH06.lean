import Derived.Test.YtghpjlmaamnnpaaDoorH05
set_option linter.all false
namespace Go.X
open Go
theorem faddr_runs {P:Program}{ρ:Rn}{g:G}{w:World}{n s f off k:Nat}{vs:List Value}{c:Value}{r:Res}{fs:Array Field}{fd:Field} (hu:P.underlying s=some (.struct fs))
  (hf:fs[f]?=some fd) (h2:sizeT P fd.type=some (k+1)) (hoff:fd.offset=off)
  (ha:aFaddr off vs=some r) (hv:VL ρ vs [c]) (hr:RelH P ρ g w):Runs P (vS (Instr.fieldAt s c f)) ρ g w n r:=by
 unfold aFaddr at ha
 split at ha
 ·rename_i id idx fo
  obtain⟨l,hl,rfl⟩:=v_ptr hv.1
  subst hoff
  refine Runs.pureS hr ?_ ⟨_,ha⟩ (.ptr hl)
  simp[Instr.fieldAt,run_underlying hu,hf,Instr.sureAddr,fieldPlace,sizeOf_run h2,addr_add_add,Nat.add_assoc]
 ·cases ha
theorem run_indexAt_slice {P:Program}{w:World}{t e size len cap:Nat}{a:Addr}{q:IntKind}{i:Int} (hu:P.underlying t=some (.slice e)) (h2:sizeT P e=some size)
  (h0:0 ≤ i) (h1:i<len):(Instr.indexAt t (.slice (some a) len cap) (.int q i)).run P w=.ok (.pointer (some (a.add (i.toNat*size)))) w:=by
 simp[Instr.indexAt,asIntOf,run_underlying hu,h0,h1,sizeOf_run h2]
theorem v_slice {ρ:Rn}{id idx len cap:Nat}{c:Value} (h:V ρ (.slice (some ⟨id,idx,none⟩) len cap) c) :
  (∃ l,ρ id=some l ∧ c=.slice (some (l.addr.add (idx*l.stride))) len (cap+l.extra)) ∨ (len=0 ∧ cap=0 ∧ ∃ a,c=.slice (some a) 0 0):=by
 cases h with
 |slc h=>exact .inl ⟨_,h,rfl⟩
 |slz=>exact .inr ⟨rfl,rfl,_,rfl⟩
theorem v_slicea {ρ:Rn}{id idx fo len cap:Nat}{c:Value} (h:V ρ (.slice (some ⟨id,idx,some fo⟩) len cap) c) :
  (∃ l,ρ id=some l ∧ c=.slice (some (l.addr.add (idx*l.stride+fo))) len cap) ∨ (len=0 ∧ cap=0 ∧ ∃ a,c=.slice (some a) 0 0):=by
 cases h with
 |sla h=>exact .inl ⟨_,h,rfl⟩
 |slaz=>exact .inr ⟨rfl,rfl,_,rfl⟩
theorem stride_of {P:Program}{ρ:Rn}{g:G}{w:World}{id m st:Nat}{f:Nat → List Value}{o ro:Bool}{l:L} (hr:RelH P ρ g w) (hg:g id=some (.rows m st f o ro)) (hl:ρ id=some l):l.stride=st:=by
 obtain⟨l',hl',hh⟩:=hr.holds _ _ hg
 rw[hl]at hl';cases hl'
 exact hh.1
theorem iaddrS_runs {P:Program}{ρ:Rn}{g:G}{w:World}{n t e size:Nat}{vs:List Value}{bs:List Blk}{c d:Value}{r:Res} (hu:P.underlying t=some (.slice e)) (h2:sizeT P e=some size)
  (ha:aIaddrS size vs bs=some r) (hok:r.ok=true) (hv:VL ρ vs [c,d]) (hr:RelH P ρ g w) (hb:GL g (rowId vs) bs):Runs P (vS (Instr.indexAt t c d)) ρ g w n r:=by
 unfold aIaddrS at ha
 split at ha
 ·rename_i id idx len cap q i m st f o ro
  simp only[rowId,GL,and_true]at hb
  obtain⟨hst,ha⟩:=must_some ha
  have hst:=Nat.eq_of_beq_eq_true hst
  have ha':=ha
  simp only[rv,Option.some.injEq]at ha';subst ha'
  obtain⟨hi0,hi1⟩:=intRange_of hok
  obtain⟨hv1,hv2,_⟩:=hv
  have:=v_int hv2;subst this
  rcases v_slice hv1 with⟨l,hl,rfl⟩|⟨rfl,_,_⟩
  ·have hs:=stride_of hr hb hl
   refine Runs.pureS hr (run_indexAt_slice hu h2 hi0 hi1) ⟨_,ha⟩ ?_
   rw[addr_add_add,← hst,← hs,← Nat.add_mul]
   exact V.ptr (fo:=0) hl
  ·omega
 ·rename_i id idx fo len cap q i
  have ha':=ha
  simp only[rv,Option.some.injEq]at ha';subst ha'
  obtain⟨hi0,hi1⟩:=intRange_of hok
  obtain⟨hv1,hv2,_⟩:=hv
  have:=v_int hv2;subst this
  rcases v_slicea hv1 with⟨l,hl,rfl⟩|⟨rfl,_,_⟩
  ·refine Runs.pureS hr (run_indexAt_slice hu h2 hi0 hi1) ⟨_,ha⟩ ?_
   rw[addr_add_add,Nat.add_assoc]
   exact V.ptr hl
  ·omega
 ·cases ha
theorem iaddrA_runs {P:Program}{ρ:Rn}{g:G}{w:World}{n t e len size:Nat}{dyn:Bool}{vs:List Value}{bs:List Blk}{c d:Value}{r:Res} (hu:P.underlying t=some (.array len e)) (h2:sizeT P e=some size)
  (ha:aIaddrA dyn len size bs vs=some r) (hok:r.ok=true) (hv:VL ρ vs [c,d]) (hr:RelH P ρ g w) (hb:GL g (ptrId vs) bs):Runs P (vS (Instr.indexAt t c d)) ρ g w n r:=by
 unfold aIaddrA at ha
 split at ha
 ·rename_i id idx fo q i
  obtain⟨hv1,hv2,_⟩:=hv
  have:=v_int hv2;subst this
  obtain⟨l,hl,rfl⟩:=v_ptr hv1
  have two:∀ idx',idx'*l.stride=idx*l.stride → rv (.pointer (some ⟨id,idx',some (fo+i.toNat*size)⟩)) (intRange i len)=some r → Runs P (vS (Instr.indexAt t (.pointer (some (l.addr.add (idx*l.stride+fo)))) (.int q i))) ρ g w n r:=by
   intro idx' he ha
   have ha':=ha
   simp only[rv,Option.some.injEq]at ha';subst ha'
   obtain⟨hi0,hi1⟩:=intRange_of hok
   refine Runs.pureS (c:=.pointer (some ((l.addr.add (idx*l.stride+fo)).add (i.toNat*size)))) hr ?_ ⟨_,ha⟩ ?_
   ·simp[Instr.indexAt,asIntOf,run_underlying hu,Instr.sureAddr,hi0,hi1,sizeOf_run h2]
   ·rw[addr_add_add,Nat.add_assoc,← he]
    exact V.ptr hl
  split at ha
  ·rename_i hv'
   unfold isVar at hv'
   split at hv'
   ·simp only[ptrId,GL,and_true]at hb
    obtain⟨l',hl',hh⟩:=hr.holds _ _ hb
    rw[hl]at hl';cases hl'
    exact two 1 (by rw[hh.1.2];simp) ha
   ·cases hv'
  ·exact two idx rfl ha
 ·cases ha
theorem run_bounds {P:Program}{ρ:Rn}{w:World}{isS:Bool}{len cap:Nat}{lo hi:Option Operand}{e:Operand → Value}{vs:List Value}{l h:Int} (hs:sepOps lo hi vs len=some (l,h))
  (hv:VL ρ vs ((opt lo++opt hi).map e)) (h0:0 ≤ l) (h1:l ≤ h) (h2:h ≤ cap) :
  (Instr.sliceBounds isS len cap (lo.map e) (hi.map e) none).run P w=.ok (l.toNat,h.toNat,cap) w:=by
 unfold sepOps at hs
 split at hs
 ·simp only[Option.some.injEq,Prod.mk.injEq]at hs
  obtain⟨rfl,rfl⟩:=hs
  simp[Instr.sliceBounds]
 ·simp only[Option.some.injEq,Prod.mk.injEq]at hs
  obtain⟨rfl,rfl⟩:=hs
  rename_i x k l'
  have:=v_int hv.1
  have h3:l' ≤ (len:Int):=h1
  simp[Instr.sliceBounds,Instr.sliceBound,this,asIntOf,h0,h3]
 ·simp only[Option.some.injEq,Prod.mk.injEq]at hs
  obtain⟨rfl,rfl⟩:=hs
  rename_i x k h'
  have:=v_int hv.1
  have h3:0 ≤ h':=h1
  simp[Instr.sliceBounds,Instr.sliceBound,this,asIntOf,h2,h3]
 ·simp only[Option.some.injEq,Prod.mk.injEq]at hs
  obtain⟨rfl,rfl⟩:=hs
  rename_i x y k l' k' h'
  have e1:=v_int hv.1
  have e2:=v_int hv.2.1
  have h3:0 ≤ h':=by omega
  have h5:l' ≤ max h' 0:=by omega
  simp[Instr.sliceBounds,Instr.sliceBound,e1,e2,asIntOf,h2,h3,h0,h5]
 ·cases hs
theorem sliceOf_some {size:Nat}{lo hi:Option Operand}{vs:List Value}{len cap:Nat}{at_:Nat → Option Addr}{r:Res} (h:sliceOf size lo hi vs len cap at_=some r) (hok:r.ok=true) :
  ∃ l h,sepOps lo hi vs len=some (l,h) ∧ 0 ≤ l ∧ l ≤ h ∧ h ≤ cap ∧ rv (.slice (at_ (l.toNat*size)) (h-l).toNat (cap-l.toNat)) r.ok=some r:=by
 unfold sliceOf at h
 split at h
 ·rename_i l h' hs
  simp only[Option.some.injEq]at h
  subst h
  simp only[Bool.and_eq_true,decide_eq_true_eq]at hok
  exact⟨l,h',hs,hok.1.1,hok.1.2,hok.2,rfl⟩
 ·cases h
theorem run_sliceAt_slice' {P:Program}{w:World}{t e size:Nat}{a:Option Addr}{len cap l h:Nat}{lo hi:Option Value} (hu:P.underlying t=some (.slice e)) (h2:sizeT P e=some size)
  (hb:(Instr.sliceBounds true len cap lo hi none).run P w=.ok (l,h,cap) w) :
  (Instr.sliceAt t (.slice a len cap) lo hi none).run P w=.ok (.slice (if cap=l then a else a.map (·.add (l*size))) (h-l) (cap-l)) w:=by
 simp[Instr.sliceAt,Instr.slice,run_underlying hu,hb,sizeOf_run h2]
theorem slS_runs {P:Program}{ρ:Rn}{g:G}{w:World}{n t e size:Nat}{vs:List Value}{bs:List Blk}{x:Operand}{lo hi:Option Operand}{ev:Operand → Value}{r:Res}
  (hu:P.underlying t=some (.slice e)) (h2:sizeT P e=some size)
  (ha:aSlS size lo hi vs bs=some r) (hok:r.ok=true) (hv:VL ρ vs (ev x :: (opt lo++opt hi).map ev)) (hr:RelH P ρ g w) (hb:GL g (rowId vs) bs) :
  Runs P (vS (Instr.sliceAt t (ev x) (lo.map ev) (hi.map ev) none)) ρ g w n r:=by
 unfold aSlS at ha
 split at ha
 ·rename_i vs'
  obtain⟨hv1,hv2⟩:=hv
  obtain⟨e1,_,_⟩:=v_snil hv1
  split at ha
  ·rename_i l h hs
   have ha':=ha
   simp only[rv,Option.some.injEq]at ha';subst ha'
   simp only[Bool.and_eq_true,decide_eq_true_eq]at hok
   obtain⟨rfl,rfl⟩:=hok
   have hbd:=run_bounds (P:=P) (w:=w) (isS:=true) (cap:=0) hs hv2 (by omega) (by omega) (by simp)
   rw[e1]
   exact Runs.pureS hr (run_sliceAt_slice' hu h2 hbd) ⟨_,ha⟩ (by simp;exact .snil)
  ·cases ha
 ·rename_i id idx len cap vs' m st f o ro
  simp only[rowId,GL,and_true]at hb
  obtain⟨hst,ha⟩:=must_some ha
  have hst:=Nat.eq_of_beq_eq_true hst
  obtain⟨l,h,hs,h0,h1,h3,hrv⟩:=sliceOf_some ha hok
  obtain⟨hv1,hv2⟩:=hv
  rcases v_slice hv1 with⟨L,hl,e1⟩|⟨rfl,rfl,a,e1⟩
  ·have hstr:=stride_of hr hb hl
   have hbd:=run_bounds (P:=P) (w:=w) (isS:=true) (cap:=cap+L.extra) hs hv2 h0 h1 (by omega)
   rw[e1]
   refine Runs.pureS hr (run_sliceAt_slice' hu h2 hbd) ⟨_,hrv⟩ ?_
   by_cases hc:cap+L.extra=l.toNat
   ·rw[if_pos hc]
    have q1:(h-l).toNat=0:=by omega
    have q2:cap-l.toNat=0:=by omega
    have q3:h.toNat-l.toNat=0:=by omega
    have q4:cap+L.extra-l.toNat=0:=by omega
    rw[q1,q2,q3,q4]
    exact .slz
   ·rw[if_neg hc]
    have q1:h.toNat-l.toNat=(h-l).toNat:=by omega
    have q2:cap+L.extra-l.toNat=cap-l.toNat+L.extra:=by omega
    rw[q1,q2,Option.map_some,addr_add_add,← hst,← hstr,← Nat.add_mul,Nat.mul_one]
    exact .slc hl
  ·have hl0:l=0:=by omega
   have hh0:h=0:=by omega
   subst hl0 hh0
   have hbd:=run_bounds (P:=P) (w:=w) (isS:=true) (cap:=0) hs hv2 (by omega) (by omega) (by simp)
   rw[e1]
   refine Runs.pureS hr (run_sliceAt_slice' hu h2 hbd) ⟨_,hrv⟩ ?_
   simp
   exact .slz
 ·rename_i id idx fo len cap vs'
  obtain⟨l,h,hs,h0,h1,h3,hrv⟩:=sliceOf_some ha hok
  obtain⟨hv1,hv2⟩:=hv
  rcases v_slicea hv1 with⟨L,hl,e1⟩|⟨rfl,rfl,a,e1⟩
  ·have hbd:=run_bounds (P:=P) (w:=w) (isS:=true) (cap:=cap) hs hv2 h0 h1 (by omega)
   rw[e1]
   refine Runs.pureS hr (run_sliceAt_slice' hu h2 hbd) ⟨_,hrv⟩ ?_
   have q1:h.toNat-l.toNat=(h-l).toNat:=by omega
   by_cases hc:cap=l.toNat
   ·rw[if_pos hc]
    have q1:(h-l).toNat=0:=by omega
    have q3:h.toNat-l.toNat=0:=by omega
    have q4:cap-l.toNat=0:=by omega
    rw[q1,q3,q4]
    exact .slaz
   ·rw[if_neg hc,q1,Option.map_some,addr_add_add,Nat.add_assoc]
    exact .sla hl
  ·have hl0:l=0:=by omega
   have hh0:h=0:=by omega
   subst hl0 hh0
   have hbd:=run_bounds (P:=P) (w:=w) (isS:=true) (cap:=0) hs hv2 (by omega) (by omega) (by simp)
   rw[e1]
   refine Runs.pureS hr (run_sliceAt_slice' hu h2 hbd) ⟨_,hrv⟩ ?_
   simp
   exact .slaz
 ·cases ha
theorem slStr_runs {P:Program}{ρ:Rn}{g:G}{w:World}{n t:Nat}{vs:List Value}{x:Operand}{lo hi:Option Operand}{ev:Operand → Value}{r:Res} (hu:P.underlying t=some .string)
  (ha:aSlStr lo hi vs=some r) (hok:r.ok=true) (hv:VL ρ vs (ev x :: (opt lo++opt hi).map ev)) (hr:RelH P ρ g w) :
  Runs P (vS (Instr.sliceAt t (ev x) (lo.map ev) (hi.map ev) none)) ρ g w n r:=by
 unfold aSlStr at ha
 split at ha
 ·rename_i s vs'
  obtain⟨hv1,hv2⟩:=hv
  have e1:=v_string hv1
  split at ha
  ·rename_i l h hs
   have ha':=ha
   simp only[rv,Option.some.injEq]at ha';subst ha'
   simp only[Bool.and_eq_true,decide_eq_true_eq]at hok
   have hbd:=run_bounds (P:=P) (w:=w) (isS:=false) (cap:=s.size) hs hv2 hok.1.1 hok.1.2 hok.2
   rw[e1]
   exact Runs.pureS hr (by simp[Instr.sliceAt,Instr.slice,run_underlying hu,hbd]) ⟨_,ha⟩ (.string _)
  ·cases ha
 ·cases ha
theorem slArr_runs {P:Program}{ρ:Rn}{g:G}{w:World}{n t e k size:Nat}{vs:List Value}{x:Operand}{lo hi:Option Operand}{ev:Operand → Value}{r:Res}
  (hu:P.underlying t=some (.array k e)) (h2:sizeT P e=some size)
  (ha:aSlArr k size lo hi vs=some r) (hok:r.ok=true) (hv:VL ρ vs (ev x :: (opt lo++opt hi).map ev)) (hr:RelH P ρ g w) :
  Runs P (vS (Instr.sliceAt t (ev x) (lo.map ev) (hi.map ev) none)) ρ g w n r:=by
 unfold aSlArr at ha
 split at ha
 ·rename_i id idx fo vs'
  obtain⟨l,h,hs,h0,h1,h3,hrv⟩:=sliceOf_some ha hok
  obtain⟨hv1,hv2⟩:=hv
  obtain⟨L,hl,e1⟩:=v_ptr hv1
  have hbd:=run_bounds (P:=P) (w:=w) (isS:=false) (cap:=k) hs hv2 h0 h1 h3
  rw[e1]
  refine Runs.pureS (c:=.slice (some (if k=l.toNat then L.addr.add (idx*L.stride+fo)else(L.addr.add (idx*L.stride+fo)).add (l.toNat*size))) (h.toNat-l.toNat) (k-l.toNat)) hr ?_ ⟨_,hrv⟩ ?_
  ·simp[Instr.sliceAt,run_underlying hu,Instr.sureAddr,hbd,sizeOf_run h2]
  ·have q1:h.toNat-l.toNat=(h-l).toNat:=by omega
   by_cases hc:k=l.toNat
   ·rw[if_pos hc]
    have q1:(h-l).toNat=0:=by omega
    have q3:h.toNat-l.toNat=0:=by omega
    have q4:k-l.toNat=0:=by omega
    rw[q1,q3,q4]
    exact .slaz
   ·rw[if_neg hc,q1,addr_add_add,Nat.add_assoc]
    exact .sla hl
 ·cases ha
theorem lenS_runs {P:Program}{ρ:Rn}{g:G}{w:World}{n t ty:Nat}{ts:List TypeId}{e:TypeId}{vs:List Value}{c:Value}{r:Res} (hu:P.underlying t=some (.slice e))
  (ha:aLenS vs=some r) (hv:VL ρ vs [c]) (hr:RelH P ρ g w):Runs P (vS (Builtin.len_ ⟨t :: ts⟩ ty #[c])) ρ g w n r:=by
 unfold aLenS at ha
 split at ha
 ·rename_i a k cap
  have:∃ a' cap',c=.slice a' k cap':=by
   have:=hv.1
   cases this<;>exact⟨_,_,rfl⟩
  obtain⟨a',cap',rfl⟩:=this
  exact Runs.pureS hr (by simp[Builtin.len_,run_underlying hu,goInt]) ⟨_,ha⟩ (.int _ _)
 ·cases ha
theorem lenStr_runs {P:Program}{ρ:Rn}{g:G}{w:World}{n t ty:Nat}{ts:List TypeId}{vs:List Value}{c:Value}{r:Res} (hu:P.underlying t=some .string)
  (ha:aLenStr vs=some r) (hv:VL ρ vs [c]) (hr:RelH P ρ g w):Runs P (vS (Builtin.len_ ⟨t :: ts⟩ ty #[c])) ρ g w n r:=by
 unfold aLenStr at ha
 split at ha
 ·have:=v_string hv.1;subst this
  exact Runs.pureS hr (by simp[Builtin.len_,run_underlying hu,goInt]) ⟨_,ha⟩ (.int _ _)
 ·cases ha
section
variable {P:Program} (w:World) (D:Nat){t:TypeId}
theorem eqn_ptr {e:TypeId} (hu:P.underlying t=some (.pointer e)) (b:Option Addr):(Op.equalIn (D+1) t (.pointer none) (.pointer b)).run P w=.ok b.isNone w:=by
 simp[Op.equalIn,run_underlying hu]
theorem eqn_ptr' {e:TypeId} (hu:P.underlying t=some (.pointer e)) (b:Addr):(Op.equalIn (D+1) t (.pointer (some b)) (.pointer none)).run P w=.ok false w:=by
 simp[Op.equalIn,run_underlying hu]
theorem eqn_slc {e:TypeId} (hu:P.underlying t=some (.slice e)) (b:Option Addr) (l c l' c':Nat):(Op.equalIn (D+1) t (.slice none l c) (.slice b l' c')).run P w=.ok b.isNone w:=by
 simp[Op.equalIn,run_underlying hu]
theorem eqn_slc' {e:TypeId} (hu:P.underlying t=some (.slice e)) (b:Addr) (l c l' c':Nat):(Op.equalIn (D+1) t (.slice (some b) l c) (.slice none l' c')).run P w=.ok false w:=by
 simp[Op.equalIn,run_underlying hu]
theorem eqn_map {e e':TypeId} (hu:P.underlying t=some (.map e e')) (b:Option Nat):(Op.equalIn (D+1) t (.map none) (.map b)).run P w=.ok b.isNone w:=by
 simp[Op.equalIn,run_underlying hu]
theorem eqn_map' {e e':TypeId} (hu:P.underlying t=some (.map e e')) (b:Nat):(Op.equalIn (D+1) t (.map (some b)) (.map none)).run P w=.ok false w:=by
 simp[Op.equalIn,run_underlying hu]
theorem eqn_fn0 {a b:Array TypeId}{v:Bool} (hu:P.underlying t=some (.func a b v)):(Op.equalIn (D+1) t .nilFunc .nilFunc).run P w=.ok true w:=by
 simp[Op.equalIn,run_underlying hu]
theorem eqn_fn1 {a b:Array TypeId}{v:Bool} (hu:P.underlying t=some (.func a b v)) (f:Fn) (x y:Array Value):(Op.equalIn (D+1) t .nilFunc (.func f x y)).run P w=.ok false w:=by
 simp[Op.equalIn,run_underlying hu]
theorem eqn_fn2 {a b:Array TypeId}{v:Bool} (hu:P.underlying t=some (.func a b v)) (f:Fn) (x y:Array Value):(Op.equalIn (D+1) t (.func f x y) .nilFunc).run P w=.ok false w:=by
 simp[Op.equalIn,run_underlying hu]
theorem eqn_if0 {m:Array (String × TypeId)} (hu:P.underlying t=some (.interface m)):(Op.equalIn (D+1) t .nilIface .nilIface).run P w=.ok true w:=by
 simp[Op.equalIn,run_underlying hu]
theorem eqn_if1 {m:Array (String × TypeId)} (hu:P.underlying t=some (.interface m)) (u:TypeId) (x:Value):(Op.equalIn (D+1) t .nilIface (.iface u x)).run P w=.ok false w:=by
 simp[Op.equalIn,run_underlying hu]
theorem eqn_if2 {m:Array (String × TypeId)} (hu:P.underlying t=some (.interface m)) (u:TypeId) (x:Value):(Op.equalIn (D+1) t (.iface u x) .nilIface).run P w=.ok false w:=by
 simp[Op.equalIn,run_underlying hu]
end
theorem eqnil_runs {P:Program}{ρ:Rn}{g:G}{w:World}{n kind:Nat}{op:BinOp}{neg:Bool}{t:TypeId}{vs:List Value}{x y:Operand}{c d:Value}{r:Res}
  (hop:op=cond neg .neq .eql)
  (ht:(kind=0 ∧ ∃ e,P.underlying t=some (.pointer e)) ∨ (kind=1 ∧ ∃ e,P.underlying t=some (.slice e)) ∨ (kind=2 ∧ ∃ a b,P.underlying t=some (.map a b)) ∨
   (kind=3 ∧ ∃ a b v,P.underlying t=some (.func a b v)) ∨ (kind=4 ∧ (∃ m,P.underlying t=some (.interface m)) ∧ ((∃ v,x=.const v) ∨ ∃ v,y=.const v)))
  (ha:aEqnil kind neg vs=some r) (hv:VL ρ vs [c,d]) (hr:RelH P ρ g w) :
  Runs P (vS (do eqGuard op t x y c d;binOp op t c d)) ρ g w n r:=by
 have main:∀ (b:Bool),(eqGuard op t x y c d).run P w=.ok () w → (Op.equalIn 10000 t c d).run P w=.ok b w → (binOp .eql t c d=(do let r ← Op.equal t c d;pure (.bool r))) →
   (binOp .neq t c d=(do let r ← Op.equal t c d;pure (.bool (!r)))) →
   rv (.bool (cond neg (!b) b))=some r → Runs P (vS (do eqGuard op t x y c d;binOp op t c d)) ρ g w n r:=by
  intro b h1 h2 h3 h3' h4
  have h2':(Op.equal t c d).run P w=.ok b w:=by unfold Op.equal Op.maxDepth;exact h2
  cases neg
  ·subst hop
   simp only[cond_false]at h1 ⊢
   exact Runs.pureS hr (by simp[h1,h3,h2']) ⟨_,h4⟩ (.bool _)
  ·subst hop
   simp only[cond_true]at h1 ⊢
   exact Runs.pureS hr (by simp[h1,h3',h2']) ⟨_,h4⟩ (.bool _)
 unfold aEqnil at ha
 split at ha
 ·rename_i a b
  obtain⟨hv1,hv2,_⟩:=hv
  split at ha
  ·rename_i p q hp hq
   split at ha
   ·rename_i hpq
    have hbe:binOp .eql t c d=(do let r ← Op.equal t c d;pure (.bool r)):=by
     rcases ht with⟨rfl,_⟩|⟨rfl,_⟩|⟨rfl,_⟩|⟨rfl,_⟩|⟨rfl,_⟩<;>cases hv1<;>simp[isNil]at hp<;>simp[binOp]
    have hbn:binOp .neq t c d=(do let r ← Op.equal t c d;pure (.bool (!r))):=by
     rcases ht with⟨rfl,_⟩|⟨rfl,_⟩|⟨rfl,_⟩|⟨rfl,_⟩|⟨rfl,_⟩<;>cases hv1<;>simp[isNil]at hp<;>simp[binOp]
    refine main (p&&q) ?_ ?_ hbe hbn ha
    ·rcases ht with⟨rfl,_⟩|⟨rfl,_⟩|⟨rfl,_⟩|⟨rfl,_⟩|⟨rfl,_,hc⟩<;>cases hv1<;>simp[isNil]at hp
     all_goals first
      |(rw[eqGuard_at_pointer];rfl)
      |(rw[eqGuard_at_slice];rfl)
      |(rw[eqGuard_at_map];rfl)
      |(rw[eqGuard_at_func];rfl)
      |(rw[eqGuard_at_nilFunc];rfl)
      |(rw[eqGuard_at_iface];rfl)
      |skip
     cases hv2<;>simp[isNil]at hq
     ·rcases hc with⟨v,rfl⟩|⟨v,rfl⟩
      ·rw[eqGuard_nil_constL];rfl
      ·rw[eqGuard_nil_constR];rfl
     ·rw[eqGuard_nil_iface];rfl
    ·have hD:∀ D,(Op.equalIn (D+1) t c d).run P w=.ok (p&&q) w:=by
      intro D
      rcases ht with⟨rfl,e,hu⟩|⟨rfl,e,hu⟩|⟨rfl,e,e',hu⟩|⟨rfl,e,e',e'',hu⟩|⟨rfl,⟨e,hu⟩,hc⟩<;>cases hv1<;>simp[isNil]at hp<;>cases hv2<;>simp[isNil]at hq<;>subst hp<;>subst hq<;>simp at hpq <;>
       first
        |exact eqn_ptr w D hu _
        |exact eqn_ptr' w D hu _
        |exact eqn_slc w D hu _ _ _ _ _
        |exact eqn_slc' w D hu _ _ _ _ _
        |exact eqn_map w D hu _
        |exact eqn_map' w D hu _
        |exact eqn_fn0 w D hu
        |exact eqn_fn1 w D hu _ _ _
        |exact eqn_fn2 w D hu _ _ _
        |exact eqn_if0 w D hu
        |exact eqn_if1 w D hu _ _
        |exact eqn_if2 w D hu _ _
     exact hD 9999
   ·cases ha
  ·cases ha
 ·cases ha
end Go.X
