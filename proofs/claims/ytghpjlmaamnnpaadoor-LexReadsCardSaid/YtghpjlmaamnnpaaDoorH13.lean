import Derived.Test.YtghpjlmaamnnpaaDoorH12
set_option linter.all false
namespace Go.X
open Go
def tD (D:Nat → Bool):List Rec → Nat → Tm → Tm
 |[],_,t=>t
 |r :: rs,i,t=>tD D rs (i+1) (cond (D i) (r.put++t) t)
def hD (D:Nat → Bool):List Rec → Nat → Hp → Hp
 |[],_,h=>h
 |r :: rs,i,h=>hD D rs (i+1) (cond (D i) (r.upd++h) h)
theorem tD_agree (D D':Nat → Bool) (k:Nat):∀ (rs:List Rec) (i:Nat) (t t':Tm),(∀ (j:Nat) r,rs[j]?=some r → look r.put k≠none → D (i+j)=D' (i+j)) →
  look t k=look t' k → look (tD D rs i t) k=look (tD D' rs i t') k
 |[],_,t,t',_,h=>h
 |r :: rs,i,t,t',hd,h=>by
  simp only[tD]
  refine tD_agree D D' k rs (i+1) _ _ (fun j r' hj hk=>?_) ?_
  ·have:=hd (j+1) r' (by simpa using hj) hk
   rwa [Nat.add_assoc,Nat.add_comm 1 j]
  ·have h0:=hd 0 r rfl
   by_cases hp:look r.put k=none
   ·have e1:∀ t,look (r.put++t) k=look t k:=fun t=>by rw[look_append,hp]
    cases D i<;>cases D' i<;>simp[e1,h]
   ·have:=h0 hp
    simp only[Nat.add_zero]at this
    rw[this]
    cases D' i
    ·simp[h]
    ·simp only[cond_true,look_append,h]
theorem hget_nin {u h:Hp}{id:Nat} (hn:id ∉ fstL u):hget (u++h) id=hget h id:=by
 induction u with
 |nil=>rfl
 |cons x u ih =>
  obtain⟨k,b⟩:=x
  simp only[fstL,List.mem_cons,not_or]at hn
  simp only[List.cons_append,hget,ih hn.2]
  cases hb:Nat.beq k id with
  |false=>rfl
  |true=>exact absurd (Nat.eq_of_beq_eq_true hb).symm hn.1
theorem hget_in {u h h':Hp}{id:Nat} (hn:id∈fstL u):hget (u++h) id=hget (u++h') id:=by
 induction u with
 |nil=>cases hn
 |cons x u ih =>
  obtain⟨k,b⟩:=x
  simp only[List.cons_append,hget]
  cases hb:Nat.beq k id with
  |true=>rfl
  |false =>
   simp only[fstL,List.mem_cons]at hn
   refine ih (hn.resolve_left fun e=>?_)
   subst e
   simp at hb
theorem hD_agree (D D':Nat → Bool) (id:Nat):∀ (rs:List Rec) (i:Nat) (h h':Hp),(∀ (j:Nat) r,rs[j]?=some r → id∈fstL r.upd → D (i+j)=D' (i+j)) →
  hget h id=hget h' id → hget (hD D rs i h) id=hget (hD D' rs i h') id
 |[],_,h,h',_,e=>e
 |r :: rs,i,h,h',hd,e=>by
  simp only[hD]
  refine hD_agree D D' id rs (i+1) _ _ (fun j r' hj hk=>?_) ?_
  ·have:=hd (j+1) r' (by simpa using hj) hk
   rwa [Nat.add_assoc,Nat.add_comm 1 j]
  ·have h0:=hd 0 r rfl
   by_cases hp:id∈fstL r.upd
   ·have:=h0 hp
    simp only[Nat.add_zero]at this
    rw[this]
    cases D' i
    ·simp[e]
    ·simp only[cond_true];exact hget_in hp
   ·cases D i<;>cases D' i<;>simp[hget_nin hp,e]
theorem tD_none {D:Nat → Bool}:∀ (rs:List Rec) (i:Nat) (t:Tm),(∀ j,i ≤ j → D j=false) → tD D rs i t=t
 |[],_,_,_=>rfl
 |r :: rs,i,t,h=>by
  simp only[tD,h i (Nat.le_refl _),cond_false]
  exact tD_none rs (i+1) t fun j hj=>h j (by omega)
theorem hD_none {D:Nat → Bool}:∀ (rs:List Rec) (i:Nat) (t:Hp),(∀ j,i ≤ j → D j=false) → hD D rs i t=t
 |[],_,_,_=>rfl
 |r :: rs,i,t,h=>by
  simp only[hD,h i (Nat.le_refl _),cond_false]
  exact hD_none rs (i+1) t fun j hj=>h j (by omega)
theorem tD_all {D:Nat → Bool}:∀ (rs:List Rec) (i:Nat) (t:Tm),(∀ j,i ≤ j → j<i+rs.length → D j=true) → tD D rs i t=putsOf rs t
 |[],_,_,_=>rfl
 |r :: rs,i,t,h=>by
  simp only[tD,h i (Nat.le_refl _) (by simp),cond_true]
  exact tD_all rs (i+1) _ fun j hj hl=>h j (by omega) (by simp;omega)
theorem hD_all {D:Nat → Bool}:∀ (rs:List Rec) (i:Nat) (t:Hp),(∀ j,i ≤ j → j<i+rs.length → D j=true) → hD D rs i t=updsOf rs t
 |[],_,_,_=>rfl
 |r :: rs,i,t,h=>by
  simp only[hD,h i (Nat.le_refl _) (by simp),cond_true]
  exact hD_all rs (i+1) _ fun j hj hl=>h j (by omega) (by simp;omega)
def upto (m:Nat):Nat → Bool:=fun j=>Nat.blt j m
theorem upto_lt {m j:Nat} (h:j<m):upto m j=true:=by simp[upto,h]
theorem upto_ge {m j:Nat} (h:m ≤ j):upto m j=false:=by
 unfold upto
 cases hb:Nat.blt j m with
 |false=>rfl
 |true=>have:=blt_lt hb;omega
theorem tD_succ:∀ (rs:List Rec) (i m:Nat) (t:Tm) (r:Rec),rs[m]?=some r → tD (upto (i+m+1)) rs i t=r.put++tD (upto (i+m)) rs i t
 |[],_,m,_,_,h=>by simp at h
 |r0 :: rs,i,0,t,r,h=>by
  simp at h;subst h
  simp only[tD,Nat.add_zero]
  rw[upto_lt (Nat.lt_succ_self i),upto_ge (Nat.le_refl i)]
  simp only[cond_true,cond_false]
  rw[tD_none _ _ _ fun j hj=>upto_ge (by omega),tD_none _ _ _ fun j hj=>upto_ge (by omega)]
 |r0 :: rs,i,m+1,t,r,h=>by
  simp at h
  simp only[tD]
  rw[upto_lt (show i<i+(m+1)+1 by omega),upto_lt (show i<i+(m+1) by omega)]
  have:=tD_succ rs (i+1) m (r0.put++t) r h
  rw[show i+1+m=i+(m+1) by omega]at this
  exact this
theorem hD_succ:∀ (rs:List Rec) (i m:Nat) (t:Hp) (r:Rec),rs[m]?=some r → hD (upto (i+m+1)) rs i t=r.upd++hD (upto (i+m)) rs i t
 |[],_,m,_,_,h=>by simp at h
 |r0 :: rs,i,0,t,r,h=>by
  simp at h;subst h
  simp only[hD,Nat.add_zero]
  rw[upto_lt (Nat.lt_succ_self i),upto_ge (Nat.le_refl i)]
  simp only[cond_true,cond_false]
  rw[hD_none _ _ _ fun j hj=>upto_ge (by omega),hD_none _ _ _ fun j hj=>upto_ge (by omega)]
 |r0 :: rs,i,m+1,t,r,h=>by
  simp at h
  simp only[hD]
  rw[upto_lt (show i<i+(m+1)+1 by omega),upto_lt (show i<i+(m+1) by omega)]
  have:=hD_succ rs (i+1) m (r0.upd++t) r h
  rw[show i+1+m=i+(m+1) by omega]at this
  exact this
theorem xr_at {ce:CE}{hints:List (Nat × Nat)}:∀ {os:List XOper}{rs:List Rec}{i:Nat}{t:Tm}{h:Hp}{n:Nat},XR ce hints os i t h n rs →
  os.length=rs.length ∧ ∀ (m:Nat) xo r,os[m]?=some xo → rs[m]?=some r →
   StepR ce hints xo (i+m) (tD (upto (i+m)) rs i t) (hD (upto (i+m)) rs i h) r.n r ∧ n ≤ r.n ∧ r.n+r.news ≤ newsOf rs n
 |[],[],_,_,_,_,_=>⟨rfl,fun m xo r h=>by simp at h⟩
 |[],_ :: _,_,_,_,_,h=>h.elim
 |_ :: _,[],_,_,_,_,h=>h.elim
 |o :: os,r :: rs,i,t,h,n,hx=>by
  obtain⟨hs,hx⟩:=hx
  obtain⟨hl,hat⟩:=xr_at hx
  refine⟨by simp[hl],fun m xo r' ho hr=>?_⟩
  cases m with
  |zero =>
   simp at ho hr;subst ho;subst hr
   simp only[Nat.add_zero]
   rw[tD_none _ _ _ fun j hj=>upto_ge hj,hD_none _ _ _ fun j hj=>upto_ge hj]
   have:r.n=n:=hs.1
   refine⟨by rw[this];exact hs,by omega,?_⟩
   simp only[newsOf];rw[this];exact newsOf_le _ _
  |succ m =>
   simp at ho hr
   obtain⟨h1,h2,h3⟩:=hat m xo r' ho hr
   rw[show i+1+m=i+(m+1) by omega]at h1
   simp only[tD,hD]
   rw[upto_lt (show i<i+(m+1) by omega)]
   exact⟨h1,by omega,h3⟩
theorem xr_names {ce:CE}{hints:List (Nat × Nat)}:∀ {os:List XOper}{rs:List Rec}{i:Nat}{t:Tm}{h:Hp}{n:Nat},XR ce hints os i t h n rs →
  ∀ (j m:Nat) r r',j<m → rs[j]?=some r → rs[m]?=some r' → r.n+r.news ≤ r'.n
 |[],[],_,_,_,_,_=>fun j m r r' _ h=>by simp at h
 |[],_ :: _,_,_,_,_,h=>h.elim
 |_ :: _,[],_,_,_,_,h=>h.elim
 |o :: os,r :: rs,i,t,h,n,hx=>by
  obtain⟨hs,hx⟩:=hx
  have hat:=xr_at hx
  intro j m r1 r2 hjm h1 h2
  cases m with
  |zero=>omega
  |succ m =>
   simp at h2
   cases j with
   |zero =>
    simp at h1;subst h1
    have hm:m<os.length:=by rw[hat.1];exact lt_of_get h2
    have:=(hat.2 m os[m] r2 (by simp) h2).2.1
    have e:r.n=n:=hs.1
    omega
   |succ j =>
    simp at h1
    exact xr_names hx j m r1 r2 (by omega) h1 h2
def interB (l m:List Nat):Bool:=l.any fun x=>natMem x m
def heapOK1 (ord:List (List Nat)) (a b:Foot):Bool :=
 !Nat.blt a.i b.i||!(interB a.wr b.rd||interB a.wr b.wr||interB a.rd b.wr)||natMem a.i (ord.getD b.i [])
def heapOK (ord:List (List Nat)) (tr:List Foot):Bool:=tr.all fun a=>tr.all fun b=>heapOK1 ord a b
theorem natMem_iff {k:Nat}{l:List Nat}:natMem k l=true ↔ k∈l:=by
 induction l with
 |nil=>simp[natMem]
 |cons x l ih=>simp only[natMem,Bool.or_eq_true,ih,List.mem_cons,Nat.beq_eq];rw[eq_comm]
theorem interB_of {l m:List Nat}{x:Nat} (h:x∈l) (h':x∈m):interB l m=true:=List.any_eq_true.2 ⟨x,h,natMem_iff.2 h'⟩
def HOrd (ord:List (List Nat)) (rs:List Rec):Prop :=
 ∀ (i j:Nat) r r' id,i<j → rs[i]?=some r → rs[j]?=some r' → ((id∈fstL r.upd ∧ (id∈r'.rd ∨ id∈fstL r'.upd)) ∨ (id∈r.rd ∧ id∈fstL r'.upd)) → i∈ord.getD j []
theorem trOf_at:∀ {rs:List Rec}{i:Nat}{tr:List Foot},TrOf rs i tr → ∀ (j:Nat) r,rs[j]?=some r → (r.rd=[] ∧ r.upd=[]) ∨ ⟨i+j,r.rd,fstL r.upd⟩∈tr
 |[],_,_,_,j,r,h=>by simp at h
 |r0 :: rs,i,tr,h,j,r,hj=>by
  cases j with
  |zero=>simp at hj;subst hj;exact h.1
  |succ j =>
   simp at hj
   have:=trOf_at h.2 j r hj
   rwa [show i+1+j=i+(j+1) by omega]at this
theorem hOrd_of {ord:List (List Nat)}{rs:List Rec}{tr:List Foot} (ht:TrOf rs 0 tr) (h:heapOK ord tr=true):HOrd ord rs:=by
 intro i j r r' id hij hi hj hid
 have h1:=trOf_at ht i r hi
 have h2:=trOf_at ht j r' hj
 simp only[Nat.zero_add]at h1 h2
 have hne:∀ x:Rec,x.rd=[] ∧ x.upd=[] → id ∉ x.rd ∧ id ∉ fstL x.upd:=fun x e=>by rw[e.1,e.2];simp[fstL]
 rcases h1 with h1|h1
 ·have:=hne r h1
  rcases hid with⟨a,_⟩|⟨a,_⟩
  ·exact absurd a this.2
  ·exact absurd a this.1
 rcases h2 with h2|h2
 ·have:=hne r' h2
  rcases hid with⟨_,a|a⟩|⟨_,a⟩
  ·exact absurd a this.1
  ·exact absurd a this.2
  ·exact absurd a this.2
 have:=List.all_eq_true.1 (List.all_eq_true.1 h _ h1) _ h2
 simp only[heapOK1,Bool.or_eq_true,Bool.not_eq_true']at this
 rcases this with(h|h)|h
 ·have hb:Nat.blt i j=true:=by simp[hij]
  rw[hb]at h;cases h
 ·exfalso
  simp only[Bool.or_eq_false_iff]at h
  rcases hid with⟨a,b|b⟩|⟨a,b⟩
  ·rw[interB_of a b]at h;exact absurd h.1.1 (by simp)
  ·rw[interB_of a b]at h;exact absurd h.1.2 (by simp)
  ·rw[interB_of a b]at h;exact absurd h.2 (by simp)
 ·exact natMem_iff.1 h
def SOrd (ord:List (List Nat)) (l:List XOper):Prop :=
 ∀ (i j:Nat) x y k,i<j → l[i]?=some x → l[j]?=some y → ((x.dst=some k ∧ (k∈y.looks ∨ y.dst=some k)) ∨ (y.dst=some k ∧ k∈x.looks)) → i∈ord.getD j []
theorem slotOK1_at {x:XOper}{i:Nat}{ord:List (List Nat)}:∀ {l:List XOper}{j:Nat},slotOK1 x i l j ord=true → ∀ (k:Nat) y,l[k]?=some y →
  (!(dstIn x y.looks||sameDst x y||dstIn y x.looks)||natMem i (ord.getD (j+k) []))=true
 |[],_,_,k,y,h=>by simp at h
 |y0 :: l,j,h,k,y,hk=>by
  simp only[slotOK1,Bool.and_eq_true]at h
  cases k with
  |zero=>simp at hk;subst hk;exact h.1
  |succ k =>
   simp at hk
   have:=slotOK1_at h.2 k y hk
   rwa [show j+1+k=j+(k+1) by omega]at this
theorem slotOK_at {ord:List (List Nat)}:∀ {l:List XOper}{i:Nat},slotOK l i ord=true → ∀ (a b:Nat) x y,a<b → l[a]?=some x → l[b]?=some y →
  (!(dstIn x y.looks||sameDst x y||dstIn y x.looks)||natMem (i+a) (ord.getD (i+b) []))=true
 |[],_,_,a,b,x,y,_,h,_=>by simp at h
 |x0 :: l,i,h,a,b,x,y,hab,ha,hb=>by
  simp only[slotOK,Bool.and_eq_true]at h
  cases b with
  |zero=>omega
  |succ b =>
   simp at hb
   cases a with
   |zero =>
    simp at ha;subst ha
    have:=slotOK1_at h.1 b y hb
    rwa [show i+1+b=i+(b+1) by omega]at this
   |succ a =>
    simp at ha
    have:=slotOK_at h.2 a b x y (by omega) ha hb
    rwa [show i+1+b=i+(b+1) by omega,show i+1+a=i+(a+1) by omega]at this
theorem sOrd_of {ord:List (List Nat)}{l:List XOper} (h:slotOK l 0 ord=true):SOrd ord l:=by
 intro i j x y k hij hi hj hk
 have:=slotOK_at h i j x y hij hi hj
 simp only[Nat.zero_add,Bool.or_eq_true,Bool.not_eq_true',Bool.or_eq_false_iff]at this
 rcases this with h|h
 ·exfalso
  obtain⟨⟨h1,h2⟩,h3⟩:=h
  rcases hk with⟨a,b|b⟩|⟨a,b⟩
  ·simp only[dstIn,a]at h1;rw[natMem_iff.2 b]at h1;cases h1
  ·simp only[sameDst,a,b]at h2;simp at h2
  ·simp only[dstIn,a]at h3;rw[natMem_iff.2 b]at h3;cases h3
 ·exact natMem_iff.1 h
end Go.X
namespace Go.X
open Go
def unl:List Bool → Nat
 |[]=>0
 |b :: l=>cond b 0 1+unl l
theorem unl_set:∀ (l:List Bool) (i:Nat),l[i]?=some false → unl (l.set i true)+1=unl l
 |[],i,h=>by simp at h
 |b :: l,0,h=>by simp at h;subst h;simp[unl];omega
 |b :: l,i+1,h=>by
  simp at h
  have:=unl_set l i h
  simp only[List.set_cons_succ,unl];omega
theorem unl_zero:∀ (l:List Bool),unl l=0 → ∀ (i:Nat),i<l.length → l[i]?=some true
 |[],_,i,h=>by simp at h
 |b :: l,h,i,hi=>by
  simp only[unl]at h
  cases b with
  |false=>simp at h
  |true =>
   cases i with
   |zero=>rfl
   |succ i =>
    simp only[cond_true,Nat.zero_add]at h
    simp at hi ⊢
    have:=unl_zero l h i hi
    simpa using this
theorem unl_replicate:∀ n,unl (List.replicate n false)=n
 |0=>rfl
 |n+1=>by simp[List.replicate_succ,unl,unl_replicate n];omega
theorem gapply_nin {g:G}{u:Hp}{id:Nat} (hn:id ∉ fstL u):gapply g u id=g id:=by
 induction u with
 |nil=>rfl
 |cons x u ih =>
  obtain⟨k,b⟩:=x
  simp only[fstL,List.mem_cons,not_or]at hn
  simp only[gapply]
  rw[gset_ne _ _ hn.1,ih hn.2]
theorem gapply_in {g g':G}{u:Hp}{id:Nat} (hn:id∈fstL u):gapply g u id=gapply g' u id:=by
 induction u with
 |nil=>cases hn
 |cons x u ih =>
  obtain⟨k,b⟩:=x
  simp only[gapply]
  by_cases e:id=k
  ·subst e;rw[gset_same,gset_same]
  ·rw[gset_ne _ _ e,gset_ne _ _ e]
   exact ih ((List.mem_cons.1 hn).resolve_left e)
section
variable {P:Program}{N:Nat}{B:Base}{ce:CE}{hints:List (Nat × Nat)}{ops:Array Oper}{Q:Exit → Act → World → Prop}{l:List XOper}{ord:List (List Nat)}{rs:List Rec}{s:St}
def Dn (listed:Array Bool):Nat → Bool:=fun j=>listed.getD j false
structure DInv (P:Program) (N:Nat) (B:Base) (ops:Array Oper) (ord:List (List Nat)) (rs:List Rec) (s:St) (listed:Array Bool) (a:Act) (w:World):Prop where
 size:listed.size=ops.size
 shut:∀ i,Dn listed i=true → ∀ j∈ord.getD i [],Dn listed j=true
 core:∃ ρ,Core P N B ρ (tD (Dn listed) rs 0 s.t) (hget (hD (Dn listed) rs 0 s.h)) a w ∧ (∀ id,newsOf rs s.n ≤ id → ρ id=B.ρ id) ∧
  ∀ (m:Nat) r,rs[m]?=some r → Dn listed m=false → ∀ id,r.n ≤ id → id<r.n+r.news → ρ id=none
theorem dn_set {listed:Array Bool}{m j:Nat} (hm:m<listed.size):Dn (listed.setIfInBounds m true) j=(decide (j=m)||Dn listed j):=by
 unfold Dn
 by_cases e:j=m
 ·subst e;simp[hm]
 ·rw[getD_set_ne false (Ne.symm e)];simp[e]
theorem dstep (hce:CEok P ce) (hc:Comps P N ops l) (hord:ordOK ops.toList ord=true) (hS:SOrd ord l) (hH:HOrd ord rs)
  (hx:XR ce hints l 0 s.t s.h s.n rs) (hsp:∃ k,newsOf rs s.n ≤ k ∧ B.ρ k=none) (hBn:B.n ≤ s.n){listed:Array Bool}{a:Act}{w:World} (hI:DInv P N B ops ord rs s listed a w){m:Nat} (hm:m∈Region.ready .any ops listed)
  {K:Act → World → Prop} (hK:∀ a' w',DInv P N B ops ord rs s (listed.setIfInBounds m true) a' w' → K a' w'):wpOp P ops Q m K a w:=by
 obtain⟨hun,o,ho,hall⟩:=mem_ready.1 hm
 have hmlt:m<ops.size:=(Array.getElem?_eq_some_iff.1 ho).1
 have hml:m<listed.size:=by rw[hI.size];exact hmlt
 have hDm:Dn listed m=false:=by
  unfold Dn;simpa [hml]using hun
 obtain⟨hlen,hat⟩:=xr_at hx
 have hlm:m<l.length:=by rw[hc.1];exact hmlt
 have hlo:l[m]?=some l[m]:=by simp[hlm]
 generalize hxo:l[m]=xo at hlo
 have hrm:m<rs.length:=by rw[← hlen];exact hlm
 have hro:rs[m]?=some rs[m]:=by simp[hrm]
 generalize hr:rs[m]=r at hro
 obtain⟨o',ho',hco⟩:=hc.2 m xo hlo
 rw[ho]at ho';cases ho'
 obtain⟨hs,hn1,hn2⟩:=hat m xo r hlo hro
 simp only[Nat.zero_add]at hs
 have hpast:∀ j∈ord.getD m [],Dn listed j=true:=by
  intro j hj
  have h1:=List.all_eq_true.1 (List.all_eq_true.1 hord m (by simpa using hmlt)) j hj
  have ho2:ops.toList[m]?=some o:=by simpa using ho
  simp only[ho2]at h1
  obtain⟨e,he,hb⟩:=List.any_eq_true.1 h1
  simp only[Bool.and_eq_true,Bool.or_eq_true]at hb
  have hd:Dn listed e.on=true:=hall e (by simpa using he) hb.1
  rcases hb.2 with h|h
  ·rw[← Nat.eq_of_beq_eq_true h];exact hd
  ·exact hI.shut e.on hd j (by simpa using h)
 have hfut:∀ j,m∈ord.getD j [] → Dn listed j=false:=by
  intro j hj
  cases hd:Dn listed j with
  |false=>rfl
  |true=>rw[hI.shut j hd m hj]at hDm;cases hDm
 have hxoOf:∀ (j:Nat) r',rs[j]?=some r' → ∃ xo',l[j]?=some xo' ∧ ∃ c v,r'.put=putT [] xo'.dst c v:=by
  intro j r' hj
  have hjl:j<l.length:=by rw[hlen];exact lt_of_get hj
  exact⟨l[j],by simp[hjl],stepR_put (hat j l[j] r' (by simp[hjl]) hj).1⟩
 have hwr:∀ (j:Nat) r' k,rs[j]?=some r' → look r'.put k≠none → ∃ xo',l[j]?=some xo' ∧ xo'.dst=some k:=by
  intro j r' k hj hk
  obtain⟨xo',h1,c,v,h2⟩:=hxoOf j r' hj
  refine⟨xo',h1,?_⟩
  by_cases e:xo'.dst=some k
  ·exact e
  ·rw[h2,look_putT_ne e]at hk;exact absurd rfl hk
 have slotS:∀ k,(k∈xo.looks ∨ xo.dst=some k) → ∀ (j:Nat) r',rs[j]?=some r' → look r'.put k≠none → j≠m → Dn listed j=upto m j:=by
  intro k hk j r' hj hp hne
  obtain⟨xo',h1,h2⟩:=hwr j r' k hj hp
  rcases Nat.lt_or_gt_of_ne hne with h|h
  ·rw[upto_lt h];exact hpast j (hS j m xo' xo k h h1 hlo (.inl ⟨h2,hk⟩))
  ·rw[upto_ge (Nat.le_of_lt h)]
   refine hfut j (hS m j xo xo' k h hlo h1 ?_)
   rcases hk with hk|hk
   ·exact .inr ⟨h2,hk⟩
   ·exact .inl ⟨hk,.inr h2⟩
 have heapS:∀ id,(id∈r.rd ∨ id∈fstL r.upd) → ∀ (j:Nat) r',rs[j]?=some r' → id∈fstL r'.upd → j≠m → Dn listed j=upto m j:=by
  intro id hid j r' hj hp hne
  rcases Nat.lt_or_gt_of_ne hne with h|h
  ·rw[upto_lt h];exact hpast j (hH j m r' r id h hj hro (.inl ⟨hp,hid⟩))
  ·rw[upto_ge (Nat.le_of_lt h)]
   refine hfut j (hH m j r r' id h hro hj ?_)
   rcases hid with hid|hid
   ·exact .inr ⟨hid,hp⟩
   ·exact .inl ⟨hid,.inr hp⟩
 have hmm:Dn listed m=upto m m:=by rw[hDm,upto_ge (Nat.le_refl _)]
 obtain⟨ρ,hcore,hfree,hnames⟩:=hI.core
 refine step_sound hce ho hco hs (ρ:=ρ) (g:=hget (hD (Dn listed) rs 0 s.h)) ?_ hcore.rel ?_ (hnames m r hro hDm) (by obtain⟨k,hk,hk'⟩:=hsp;exact⟨k,by omega,by rw[hfree k hk];exact hk'⟩) ?_
 ·intro k hk b v hl
  refine hcore.tm k b v ?_
  rw[← hl]
  refine tD_agree _ _ k rs 0 _ _ (fun j r' hj hp=>?_) rfl
  rw[Nat.zero_add]
  by_cases e:j=m
  ·rw[e];exact hmm
  ·exact slotS k (.inl hk) j r' hj hp e
 ·intro id hid
  refine hD_agree _ _ id rs 0 _ _ (fun j r' hj hp=>?_) rfl
  rw[Nat.zero_add]
  by_cases e:j=m
  ·rw[e];exact hmm
  ·exact heapS id (.inl hid) j r' hj hp e
 intro ρ' w' u hgood hu
 refine hK _ _ ⟨by simpa using hI.size,?_,ρ',?_,?_,?_⟩
 ·intro i hi j hj
  rw[dn_set hml]at hi ⊢
  simp only[Bool.or_eq_true,decide_eq_true_eq]at hi ⊢
  rcases hi with rfl|hi
  ·exact .inr (hpast j hj)
  ·exact .inr (hI.shut i hi j hj)
 ·refine Core.congr (hcore.step hgood (Nat.le_trans hBn hn1) (tm_put (t:=tD (Dn listed) rs 0 s.t) (p:=r.put) (hcore.tm.mono hgood.le) (stepR_put hs) (comp_dst hco) hcore.sz hu ?_ ?_)) ?_
  ·intro k hk
   have h1:look (tD (Dn (listed.setIfInBounds m true)) rs 0 s.t) k=look (tD (upto (m+1)) rs 0 s.t) k:=by
    refine tD_agree _ _ k rs 0 _ _ (fun j r' hj hp=>?_) rfl
    rw[Nat.zero_add,dn_set hml]
    by_cases e:j=m
    ·subst e;rw[upto_lt (Nat.lt_succ_self _)];simp
    ·rw[slotS k (.inr hk) j r' hj hp e]
     rcases Nat.lt_or_gt_of_ne e with h|h
     ·rw[upto_lt h,upto_lt (show j<m+1 by omega)];simp
     ·rw[upto_ge (Nat.le_of_lt h),upto_ge (show m+1 ≤ j by omega)];simp[e]
   rw[h1]
   have h2:=tD_succ rs 0 m s.t r hro
   rw[Nat.zero_add]at h2
   rw[h2,look_append]
   obtain⟨c,v,hp⟩:=stepR_put hs
   rw[hp,hk,look_putT_eq]
  ·intro k hk
   refine tD_agree _ _ k rs 0 _ _ (fun j r' hj hp=>?_) rfl
   rw[Nat.zero_add,dn_set hml]
   by_cases e:j=m
   ·subst e
    rw[hro]at hj;cases hj
    obtain⟨c,v,hp'⟩:=stepR_put hs
    rw[hp',look_putT_ne hk]at hp
    exact absurd rfl hp
   ·simp[e]
  ·intro id
   by_cases hid:id∈fstL r.upd
   ·have h1:hget (hD (Dn (listed.setIfInBounds m true)) rs 0 s.h) id=hget (hD (upto (m+1)) rs 0 s.h) id:=by
     refine hD_agree _ _ id rs 0 _ _ (fun j r' hj hp=>?_) rfl
     rw[Nat.zero_add,dn_set hml]
     by_cases e:j=m
     ·subst e;rw[upto_lt (Nat.lt_succ_self _)];simp
     ·rw[heapS id (.inr hid) j r' hj hp e]
      rcases Nat.lt_or_gt_of_ne e with h|h
      ·rw[upto_lt h,upto_lt (show j<m+1 by omega)];simp
      ·rw[upto_ge (Nat.le_of_lt h),upto_ge (show m+1 ≤ j by omega)];simp[e]
    have h2:=hD_succ rs 0 m s.h r hro
    rw[Nat.zero_add]at h2
    rw[h1,h2,hget_append]
    exact gapply_in hid
   ·rw[gapply_nin hid]
    refine hD_agree _ _ id rs 0 _ _ (fun j r' hj hp=>?_) rfl
    rw[Nat.zero_add,dn_set hml]
    by_cases e:j=m
    ·subst e
     rw[hro]at hj;cases hj
     exact absurd hp hid
    ·simp[e]
 ·intro id hid
  rw[← hfree id hid]
  cases hx0:ρ id with
  |some l=>exact hgood.le id l hx0
  |none =>
   cases hx':ρ' id with
   |none=>rfl
   |some b =>
    have:=hgood.new id hx0 (by rw[hx'];simp)
    omega
 ·intro m' r' hr' hd' id h1 h2
  rw[dn_set hml]at hd'
  simp only[Bool.or_eq_false_iff,decide_eq_false_iff_not]at hd'
  cases hx':ρ' id with
  |none=>rfl
  |some b =>
   have hb:=hgood.new id (hnames m' r' hr' hd'.2 id h1 h2) (by rw[hx'];simp)
   rcases Nat.lt_or_gt_of_ne hd'.1 with h|h
   ·have:=xr_names hx m' m r' r h hr' hro
    omega
   ·have:=xr_names hx m m' r r' h hro hr'
    omega
theorem all_listed (htopo:topoOK ops.toList=true){listed:Array Bool} (hsz:listed.size=ops.size) (hr:Region.ready .any ops listed=[]):∀ j,j<ops.size → Dn listed j=true:=by
 intro j
 induction j using Nat.strongRecOn with
 |_ j ih =>
  intro hj
  cases hd:Dn listed j with
  |true=>rfl
  |false =>
   have:j∈Region.ready .any ops listed:=by
    refine mem_ready.2 ⟨?_,ops[j],by simp[hj],fun e he hb=>?_⟩
    ·have hjl:j<listed.size:=by rw[hsz];exact hj
     unfold Dn at hd;simpa [hjl]using hd
    ·have h1:=List.all_eq_true.1 htopo j (by simpa using hj)
     have ho2:ops.toList[j]?=some ops[j]:=by simp[hj]
     simp only[ho2]at h1
     have h2:=List.all_eq_true.1 h1 e (by simpa using he)
     rw[hb]at h2
     have hlt:e.on<j:=by simpa using h2
     exact ih e.on hlt (by omega)
   rw[hr]at this;cases this
theorem draw_any (hce:CEok P ce) (hc:Comps P N ops l) (hord:ordOK ops.toList ord=true) (htopo:topoOK ops.toList=true) (hS:SOrd ord l) (hH:HOrd ord rs)
  (hx:XR ce hints l 0 s.t s.h s.n rs) (hsp:∃ k,newsOf rs s.n ≤ k ∧ B.ρ k=none) (hBn:B.n ≤ s.n) (hQ:∀ a' w',Rel P N B ⟨putsOf rs s.t,updsOf rs s.h,newsOf rs s.n⟩ a' w' → Q .normal a' w') :
  ∀ (fuel:Nat) (listed:Array Bool) (a:Act) (w:World),unl listed.toList ≤ fuel → DInv P N B ops ord rs s listed a w → wpAny P .any ops Q fuel listed a w:=by
 have fin:∀ (listed:Array Bool) (a:Act) (w:World),DInv P N B ops ord rs s listed a w → (∀ j,j<ops.size → Dn listed j=true) → Q .normal a w:=by
  intro listed a w hI hall
  obtain⟨ρ,hcore,hfree,_⟩:=hI.core
  have hlen:rs.length=ops.size:=by rw[← (xr_at hx).1,hc.1]
  rw[tD_all rs 0 s.t fun j _ hj=>hall j (by omega),hD_all rs 0 s.h fun j _ hj=>hall j (by omega)]at hcore
  exact hQ a w ⟨Nat.le_trans hBn (newsOf_le _ _),ρ,hcore,hfree⟩
 intro fuel
 induction fuel with
 |zero =>
  intro listed a w hf hI
  have hall:∀ j,j<ops.size → Dn listed j=true:=fun j hj=>by
   have:=unl_zero listed.toList (by omega) j (by simpa [hI.size]using hj)
   unfold Dn
   have h2:listed[j]?=some true:=by simpa using this
   simp[h2]
  refine⟨?_,fin listed a w hI hall⟩
  apply List.eq_nil_iff_forall_not_mem.2
  intro j hj
  obtain⟨h0,o,ho,_⟩:=mem_ready.1 hj
  have hlt:=(Array.getElem?_eq_some_iff.1 ho).1
  have h1:=hall j hlt
  unfold Dn at h1
  have hjl:j<listed.size:=by rw[hI.size];exact hlt
  simp[hjl]at h0 h1
  rw[h0]at h1;cases h1
 |succ fuel ih =>
  intro listed a w hf hI
  refine⟨fun hr=>fin listed a w hI (all_listed htopo hI.size hr),fun m hm=>?_⟩
  refine dstep hce hc hord hS hH hx hsp hBn hI hm fun a' w' hI'=>ih _ a' w' ?_ hI'
  obtain⟨hun,o,ho,_⟩:=mem_ready.1 hm
  have hmlt:m<ops.size:=(Array.getElem?_eq_some_iff.1 ho).1
  have hml:m<listed.size:=by rw[hI.size];exact hmlt
  have h0:listed.toList[m]?=some false:=by simpa [hml]using hun
  have:=unl_set _ _ h0
  simp only[Array.toList_setIfInBounds]
  omega
theorem region_draw (hmix:P.follows .mixedOrders=true) (hce:CEok P ce) (hc:Comps P N ops l) (hord:ordOK ops.toList ord=true) (htopo:topoOK ops.toList=true) (hS:SOrd ord l) (hH:HOrd ord rs)
  (hx:XR ce hints l 0 s.t s.h s.n rs) (hfr:∀ id,s.n ≤ id → id<newsOf rs s.n → B.ρ id=none) (hsp:∃ k,newsOf rs s.n ≤ k ∧ B.ρ k=none){a:Act}{w:World}{id:Nat} (hr:Rel P N B s a w) (hQ:∀ a' w',Rel P N B ⟨putsOf rs s.t,updsOf rs s.h,newsOf rs s.n⟩ a' w' → Q .normal a' w') :
  (Code.region id ops true).wp P Q a w:=by
 obtain⟨hBn,ρ,hcore,hfree⟩:=hr
 refine wp_region_any hmix (draw_any hce hc hord htopo hS hH hx hsp hBn hQ _ _ _ _ ?_ ?_)
 ·simp[unl_replicate]
 ·have hd:∀ j,Dn (Array.replicate ops.size false) j=false:=fun j=>by
   unfold Dn
   by_cases h:j<ops.size<;>simp[h]
  refine⟨by simp,fun i hi=>(by rw[hd]at hi;cases hi),ρ,?_,fun id hid=>hfree id (Nat.le_trans (newsOf_le _ _) hid),fun m r hm _ id h1 h2=>?_⟩
  ·rw[tD_none _ _ _ fun j _=>hd j,hD_none _ _ _ fun j _=>hd j]
   exact hcore.drew
  ·have hml:m<l.length:=by rw[(xr_at hx).1];exact lt_of_get hm
   have:=((xr_at hx).2 m l[m] r (by simp[hml]) hm).2
   rw[hfree id (by omega)]
   exact hfr id (by omega) (by omega)
end
end Go.X
