import Derived.Test.YtghpjlmaamnnpaaDoorH13
set_option linter.all false
namespace Go.X
open Go
abbrev Nm:=Nat → Option Nat
def asc:List (Nat × Nat) → Nm
 |[],_=>none
 |(a,b) :: l,n=>cond (Nat.beq a n) (some b) (asc l n)
def stayOr (k:Nat) (π:List (Nat × Nat)):Nm:=fun id=>cond (Nat.blt id k) (some id) (asc π id)
def nope:Value:=.chan none
def renP (σ:Nm) (id idx:Nat) (s:Option Nat) (k:Addr → Value):Value :=
 match σ id with
 |some j=>k ⟨j,idx,s⟩
 |none=>nope
def renL (r:Value → Value):List Value → List Value
 |[]=>[]
 |x :: l=>r x :: renL r l
def ren (σ:Nm):Nat → Value → Value
 |_,.bool b=>.bool b
 |_,.int k n=>.int k n
 |_,.string s=>.string s
 |_,.nilFunc=>.nilFunc
 |_,.nilIface=>.nilIface
 |_,.pointer none=>.pointer none
 |_,.pointer (some ⟨id,idx,s⟩)=>renP σ id idx s fun a=>.pointer (some a)
 |_,.slice none a b=>.slice none a b
 |_,.slice (some ⟨id,idx,s⟩) l c=>renP σ id idx s fun a=>.slice (some a) l c
 |_,.map none=>.map none
 |_,.map (some id)=>renP σ id 0 none fun a=>.map (some a.block)
 |d+1,.func fn xs ys=>.func fn ⟨renL (ren σ d) xs.toList⟩ ⟨renL (ren σ d) ys.toList⟩
 |d+1,.iface t v=>.iface t (ren σ d v)
 |d+1,.agg xs=>.agg ⟨renL (ren σ d) xs.toList⟩
 |d+1,.tuple xs=>.tuple ⟨renL (ren σ d) xs.toList⟩
 |_,_=>nope
def bindR (ρ:Rn) (σ:Nm):Rn:=fun id=>(σ id).bind ρ
set_option linter.unusedVariables false in
theorem renL_vl {ρ ρ':Rn}{r:Value → Value} (h:∀ v c,V ρ (r v) c → V ρ' v c):∀ {vs cs:List Value},VL ρ (renL r vs) cs → VL ρ' vs cs
 |[],[],_=>trivial
 |[],_ :: _,h=>h.elim
 |_ :: _,[],h=>h.elim
 |v :: vs,c :: cs,⟨h1,h2⟩=>⟨h _ _ h1,renL_vl h h2⟩
theorem nope_v {ρ:Rn}{c:Value} (h:V ρ nope c):False:=by cases h
theorem ren_v {ρ:Rn}{σ:Nm}:∀ (d:Nat) (v c:Value),V ρ (ren σ d v) c → V (bindR ρ σ) v c:=by
 have ptr:∀ (a:Addr) c,V ρ (renP σ a.block a.off a.spot fun a=>.pointer (some a)) c → V (bindR ρ σ) (.pointer (some a)) c:=by
  intro a c h
  unfold renP at h
  cases hs:σ a.block with
  |none=>rw[hs]at h;exact(nope_v h).elim
  |some j =>
   rw[hs]at h
   obtain⟨id,idx,s⟩:=a
   simp only at h hs
   cases h with
   |ptr h=>exact .ptr (by simp[bindR,hs,h])
 have slc:∀ (a:Addr) l k c,V ρ (renP σ a.block a.off a.spot fun a=>.slice (some a) l k) c → V (bindR ρ σ) (.slice (some a) l k) c:=by
  intro a l k c h
  unfold renP at h
  cases hs:σ a.block with
  |none=>rw[hs]at h;exact(nope_v h).elim
  |some j =>
   rw[hs]at h
   obtain⟨id,idx,s⟩:=a
   simp only at h hs
   cases h with
   |slc h=>exact .slc (by simp[bindR,hs,h])
   |slz=>exact .slz
   |sla h=>exact .sla (by simp[bindR,hs,h])
   |slaz=>exact .slaz
 have mp:∀ id c,V ρ (renP σ id 0 none fun a=>.map (some a.block)) c → V (bindR ρ σ) (.map (some id)) c:=by
  intro id c h
  unfold renP at h
  cases hs:σ id with
  |none=>rw[hs]at h;exact(nope_v h).elim
  |some j =>
   rw[hs]at h
   cases h with
   |map h=>exact .map (by simp[bindR,hs,h])
 intro d
 induction d with
 |zero =>
  intro v c h
  cases v with
  |bool b=>cases h;exact .bool b
  |int k n=>cases h;exact .int k n
  |string s=>cases h;exact .string s
  |nilFunc=>cases h;exact .nilFunc
  |nilIface=>cases h;exact .nilIface
  |pointer a =>
   cases a with
   |none=>cases h;exact .pnil
   |some a=>exact ptr a c h
  |slice a l k =>
   cases a with
   |none=>cases h;exact .snil
   |some a=>exact slc a l k c h
  |map a =>
   cases a with
   |none=>cases h;exact .mnil
   |some a=>exact mp a c h
  |_=>exact(nope_v h).elim
 |succ d ih =>
  intro v c h
  cases v with
  |bool b=>cases h;exact .bool b
  |int k n=>cases h;exact .int k n
  |string s=>cases h;exact .string s
  |nilFunc=>cases h;exact .nilFunc
  |nilIface=>cases h;exact .nilIface
  |pointer a =>
   cases a with
   |none=>cases h;exact .pnil
   |some a=>exact ptr a c h
  |slice a l k =>
   cases a with
   |none=>cases h;exact .snil
   |some a=>exact slc a l k c h
  |map a =>
   cases a with
   |none=>cases h;exact .mnil
   |some a=>exact mp a c h
  |func fn xs ys =>
   simp only[ren]at h
   cases h with
   |func h1 h2 h3 h4 =>
    exact VL.func (renL_vl ih (VL.of_get (by simpa using h1) (by simpa using h2))) (renL_vl ih (VL.of_get (by simpa using h3) (by simpa using h4)))
  |iface t v =>
   simp only[ren]at h
   cases h with
   |iface h=>exact .iface (ih _ _ h)
  |agg xs =>
   simp only[ren]at h
   obtain⟨ys,rfl,h2⟩:=v_agg h
   exact VL.agg (renL_vl ih h2)
  |tuple xs =>
   simp only[ren]at h
   obtain⟨ys,rfl,h2⟩:=v_tuple h
   exact VL.tuple (renL_vl ih h2)
  |_=>exact(nope_v h).elim
abbrev rn (σ:Nm):Value → Value:=ren σ 4
abbrev rnL (σ:Nm):List Value → List Value:=renL (rn σ)
theorem rnL_length {r:Value → Value}:∀ l,(renL r l).length=l.length
 |[]=>rfl
 |_ :: l=>by simp[renL,rnL_length l]
theorem rnL_get {r:Value → Value}:∀ (l:List Value) (i:Nat) v,l[i]?=some v → (renL r l)[i]?=some (r v)
 |[],i,v,h=>by simp at h
 |x :: l,0,v,h=>by simp at h;subst h;rfl
 |x :: l,i+1,v,h=>by simp at h;simpa [renL]using rnL_get l i v h
theorem ren_one {σ:Nm}{d:Nat}{v:Value} (h:isOne (ren σ d v)=true) (h':∃ ρ c,V ρ (ren σ d v) c):isOne v=true:=by
 cases v with
 |agg xs=>cases d<;>simp[ren,isOne]at h;obtain⟨ρ,c,h'⟩:=h';exact(nope_v h').elim
 |tuple xs=>cases d<;>simp[ren,isOne]at h;obtain⟨ρ,c,h'⟩:=h';exact(nope_v h').elim
 |_=>rfl
theorem ren_cv {ρ:Rn}{σ:Nm}{v c:Value} (h:CV ρ (rn σ v) c):CV (bindR ρ σ) v c:=⟨ren_one h.1 ⟨ρ,c,h.2⟩,ren_v _ _ _ h.2⟩
def BIs (P:Program) (σ:Nm):Blk → Blk → Prop
 | .var cs',.var cs=>rnL σ cs'=cs
 | .rows n' s' f' opn' ro',.rows n s f opn ro=>n'=n ∧ s'=s ∧ (∀ j,j<n → rnL σ (f' j)=f j) ∧ (opn'=true ∨ opn=false ∨ ro'=true) ∧ (ro'=true ∨ ro=false)
 | .map kt' et' n' has' val',.map kt et n has val=>kt'=kt ∧ et'=et ∧ n'=n ∧ ∀ d q,P.underlying kt=some d → keyOf d q=true → has' q=has q ∧ rn σ (val' q)=val q
 | .glb k' o' t' cs',.glb k o t cs=>k'=k ∧ o'=o ∧ t'=t ∧ rnL σ (tabOf t cs')=tabOf t cs
 |_,_=>False
theorem bis_ro {P:Program}{σ:Nm} {b' b:Blk} (h:BIs P σ b' b) (hr:b'.ro=false):b.ro=false:=by
 cases b'<;>cases b<;>simp_all [BIs,Blk.ro]
theorem bis_touch {P:Program}{σ:Nm} {b' b:Blk} (h:BIs P σ b' b) (hr:b'.touch):b.touch:=by
 cases b'<;>cases b<;>simp_all [BIs,Blk.touch]
 rename_i h
 rcases hr with h'|h'
 ·subst h';rcases h.2.2.2.2 with h|h
  ·cases h
  ·exact .inl h
 ·exact .inr h'
theorem bis_holds {P:Program}{ρ:Rn}{σ:Nm}{w:World}{l:L} {b' b:Blk} (h:Holds P ρ w l b) (hb:BIs P σ b' b):Holds P (bindR ρ σ) w l b':=by
 cases b' with
 |var cs' =>
  cases b with
  |var cs =>
   simp only[BIs]at hb;subst hb
   obtain⟨h1,c,e,lo,hi,h2,h3,h4,h5⟩:=h
   rw[rnL_length]at h3 h4
   exact⟨h1,c,e,lo,hi,h2,h3,h4,fun o v hv=>by
    obtain⟨u,hu,hcv⟩:=h5 o _ (rnL_get _ _ _ hv)
    exact⟨u,hu,ren_cv hcv⟩⟩
  |_=>exact hb.elim
 |rows n' s' f' opn' ro' =>
  cases b with
  |rows n s f opn ro =>
   obtain⟨rfl,rfl,hf,ho,hr⟩:=hb
   obtain⟨h1,h2,h3,h4⟩:=h
   refine⟨h1,fun ho' hr'=>?_,fun j hj=>⟨?_,fun o v hv=>?_⟩,fun hr'=>h4 ?_⟩
   ·subst ho';subst hr'
    refine h2 ?_ ?_
    ·rcases ho with h|h|h
     ·cases h
     ·exact h
     ·cases h
    ·rcases hr with h|h
     ·cases h
     ·exact h
   ·have:=(h3 j hj).1
    rw[← hf j hj,rnL_length]at this
    exact this
   ·obtain⟨c,hc,hcv⟩:=(h3 j hj).2 o (rn σ v) (by rw[← hf j hj];exact rnL_get _ _ _ hv)
    exact⟨c,hc,ren_cv hcv⟩
   ·subst hr'
    rcases hr with h|h
    ·cases h
    ·exact h
  |_=>exact hb.elim
 |map kt' et' n' has' val' =>
  cases b with
  |map kt et n has val =>
   obtain⟨rfl,rfl,rfl,hq⟩:=hb
   obtain⟨d,z,es,clock,h1,h2,h3,h3',h4,h5,h6,h7⟩:=h
   refine⟨d,z,es,clock,h1,h2,h3,h3',h4,h5,h6,fun q hkq=>?_⟩
   have:=h7 q hkq
   obtain⟨ha,hv⟩:=hq d q h1 hkq
   revert this
   split
   ·rintro⟨a,b⟩;exact⟨ha.trans a,ren_v 4 _ _ (by rw[show ren σ 4 (val' q)=val q from hv];exact b)⟩
   ·rintro⟨a,b⟩;exact⟨ha.trans a,ren_v 4 _ _ (by rw[show ren σ 4 (val' q)=val q from hv];exact b)⟩
  |_=>exact hb.elim
 |glb k' o' t' cs' =>
  cases b with
  |glb k o t cs =>
   obtain⟨rfl,rfl,rfl,hc⟩:=hb
   obtain⟨h1,h2,h3⟩:=h
   exact⟨h1,h2,fun i v hv=>by
    obtain⟨u,hu,hcv⟩:=h3 i (rn σ v) (by rw[← hc];exact rnL_get _ _ _ hv)
    exact⟨u,hu,ren_cv hcv⟩⟩
  |_=>exact hb.elim
structure GIs (P:Program) (σ:Nm) (g' g:G):Prop where
 is:∀ id b',g' id=some b' → ∃ id0 b,σ id=some id0 ∧ g id0=some b ∧ BIs P σ b' b
 inj:∀ id1 id2 x b1 b2,g' id1=some b1 → g' id2=some b2 → σ id1=some x → σ id2=some x → id1=id2
theorem RelH.rename {P:Program}{ρ:Rn}{σ:Nm} {g' g:G}{w:World} (h:RelH P ρ g w) (hg:GIs P σ g' g):RelH P (bindR ρ σ) g' w:=by
 refine⟨fun id b' hb'=>?_,fun id b' id2 b2' l l2 hb' hb2' hne hro ht hl hl2=>?_⟩
 ·obtain⟨id0,b,hs,hb,hbi⟩:=hg.is id b' hb'
  obtain⟨l,hl,hh⟩:=h.holds id0 b hb
  exact⟨l,by simp[bindR,hs,hl],bis_holds hh hbi⟩
 ·obtain⟨id0,b,hs,hb,hbi⟩:=hg.is id b' hb'
  obtain⟨id02,b2,hs2,hb2,hbi2⟩:=hg.is id2 b2' hb2'
  simp only[bindR,hs,hs2,Option.bind_some]at hl hl2
  refine h.sep id0 b id02 b2 l l2 hb hb2 (fun e=>?_) (bis_ro hbi hro) (bis_touch hbi2 ht) hl hl2
  subst e
  exact hne (hg.inj id id2 id0 b' b2' hb' hb2' hs hs2)
theorem Own.rename {P:Program}{ρ:Rn}{σ:Nm} {g' g:G} (hg:GIs P σ g' g){k:Nat} (h:Own (bindR ρ σ) g' k):Own ρ g k:=by
 obtain⟨id,b',l,hb',hro,hl,rfl⟩:=h
 obtain⟨id0,b,hs,hb,hbi⟩:=hg.is id b' hb'
 simp only[bindR,hs,Option.bind_some]at hl
 exact⟨id0,b,l,hb,bis_ro hbi hro,hl,rfl⟩
theorem RelH.up {P:Program} {ρ ρ':Rn}{g:G}{w:World} (h:RelH P ρ g w) (hl:Le ρ ρ'):RelH P ρ' g w:=by
 have key:∀ id b l,g id=some b → ρ' id=some l → ρ id=some l:=fun id b l hb hl'=>by
  obtain⟨l0,hl0,_⟩:=h.holds id b hb
  rw[hl id l0 hl0]at hl';cases hl';exact hl0
 exact⟨fun id b hb=>by obtain⟨l,h1,h2⟩:=h.holds id b hb;exact⟨l,hl id l h1,h2.stay hl fun _=>rfl⟩,
  fun id b id' b' l l' hb hb' hne hro ht h1 h2=>h.sep id b id' b' l l' hb hb' hne hro ht (key id b l hb h1) (key id' b' l' hb' h2)⟩
theorem Own.down {P:Program} {ρ ρ':Rn}{g:G}{w:World} (h:RelH P ρ g w) (hl:Le ρ ρ'){k:Nat} (ho:Own ρ' g k):Own ρ g k:=by
 obtain⟨id,b,l,hb,hro,hl',rfl⟩:=ho
 obtain⟨l0,hl0,_⟩:=h.holds id b hb
 rw[hl id l0 hl0]at hl';cases hl'
 exact⟨id,b,l,hb,hro,hl0,rfl⟩
def HsOK (P:Program) (σ:Nm) (g:G):List Nat → Hp → Prop
 |_,[]=>True
 |seen,(id,ob) :: h=>(match natMem id seen,ob with
  |false,some b'=>match σ id with
   |some id0=>match g id0 with
    |some b=>BIs P σ b' b
    |none=>False
   |none=>False
  |_,_=>True) ∧ HsOK P σ g (id :: seen) h
def nodupB:List Nat → Bool
 |[]=>true
 |x :: l=>!natMem x l&&nodupB l
def namesOf (σ:Nm):List Nat → Hp → List Nat
 |_,[]=>[]
 |seen,(id,ob) :: h=>match natMem id seen,ob,σ id with
  |false,some _,some x=>x :: namesOf σ (id :: seen) h
  |_,_,_=>namesOf σ (id :: seen) h
theorem hsOK_get {P:Program}{σ:Nm}{g:G}:∀ {h:Hp}{seen:List Nat},HsOK P σ g seen h → ∀ id b',id ∉ seen → hget h id=some b' → ∃ id0 b,σ id=some id0 ∧ g id0=some b ∧ BIs P σ b' b
 |[],_,_,id,b',_,h=>by cases h
 |(k,ob) :: h,seen,hk,id,b',hn,hg=>by
  simp only[hget]at hg
  cases hb:Nat.beq k id with
  |false =>
   simp[hb]at hg
   refine hsOK_get hk.2 id b' (fun hm=>?_) hg
   rcases List.mem_cons.1 hm with e|e
   ·subst e;simp at hb
   ·exact hn e
  |true =>
   have e:=Nat.eq_of_beq_eq_true hb
   subst e
   simp at hg
   subst hg
   have h1:=hk.1
   have hs:natMem k seen=false:=by
    cases hx:natMem k seen with
    |false=>rfl
    |true=>exact absurd (natMem_iff.1 hx) hn
   rw[hs]at h1
   cases hσ:σ k with
   |none=>simp[hσ]at h1
   |some id0 =>
    cases hg0:g id0 with
    |none=>simp[hσ,hg0]at h1
    |some b=>simp[hσ,hg0]at h1;exact⟨id0,b,rfl,hg0,h1⟩
theorem namesOf_mem {σ:Nm}:∀ {h:Hp}{seen:List Nat}{id:Nat}{b:Blk}{x:Nat},id ∉ seen → hget h id=some b → σ id=some x → x∈namesOf σ seen h
 |[],_,_,_,_,_,h,_=>by cases h
 |(k,ob) :: h,seen,id,b,x,hn,hg,hx=>by
  simp only[hget]at hg
  cases hb:Nat.beq k id with
  |false =>
   simp[hb]at hg
   have:=namesOf_mem (σ:=σ) (seen:=k :: seen) (id:=id) (fun hm=>by
    rcases List.mem_cons.1 hm with e|e
    ·subst e;simp at hb
    ·exact hn e) hg hx
   simp only[namesOf]
   split
   ·exact .tail _ this
   ·exact this
  |true =>
   have e:=Nat.eq_of_beq_eq_true hb
   subst e
   simp at hg
   subst hg
   have hs:natMem k seen=false:=by
    cases hy:natMem k seen with
    |false=>rfl
    |true=>exact absurd (natMem_iff.1 hy) hn
   simp[namesOf,hs,hx]
theorem names_inj {σ:Nm}:∀ {h:Hp}{seen:List Nat},nodupB (namesOf σ seen h)=true → ∀ id1 id2 x b1 b2,id1 ∉ seen → id2 ∉ seen → hget h id1=some b1 → hget h id2=some b2 → σ id1=some x → σ id2=some x → id1=id2
 |[],_,_,_,_,_,_,_,_,_,h,_,_,_=>by cases h
 |(k,ob) :: h,seen,hd,id1,id2,x,b1,b2,hn1,hn2,h1,h2,s1,s2=>by
  by_cases e1:id1=k
  ·by_cases e2:id2=k
   ·rw[e1,e2]
   ·exfalso
    subst e1
    have hb:Nat.beq id1 id2=false:=by
     cases hb:Nat.beq id1 id2 with
     |false=>rfl
     |true=>exact absurd (Nat.eq_of_beq_eq_true hb).symm e2
    simp only[hget,hb,Nat.beq_refl,cond_true,cond_false]at h1 h2
    have hs:natMem id1 seen=false:=by
     cases hy:natMem id1 seen with
     |false=>rfl
     |true=>exact absurd (natMem_iff.1 hy) hn1
    subst h1
    simp only[namesOf,hs,s1,nodupB,Bool.and_eq_true,Bool.not_eq_true']at hd
    have hm:=namesOf_mem (σ:=σ) (seen:=id1 :: seen) (id:=id2) (fun hm=>by
     rcases List.mem_cons.1 hm with e|e
     ·exact e2 e
     ·exact hn2 e) h2 s2
    rw[natMem_iff.2 hm]at hd
    cases hd.1
  ·have hb1:Nat.beq k id1=false:=by
    cases hb:Nat.beq k id1 with
    |false=>rfl
    |true=>exact absurd (Nat.eq_of_beq_eq_true hb).symm e1
   simp only[hget,hb1,cond_false]at h1
   by_cases e2:id2=k
   ·exfalso
    subst e2
    simp only[hget,Nat.beq_refl,cond_true]at h2
    have hs:natMem id2 seen=false:=by
     cases hy:natMem id2 seen with
     |false=>rfl
     |true=>exact absurd (natMem_iff.1 hy) hn2
    subst h2
    simp only[namesOf,hs,s2,nodupB,Bool.and_eq_true,Bool.not_eq_true']at hd
    have hm:=namesOf_mem (σ:=σ) (seen:=id2 :: seen) (id:=id1) (fun hm=>by
     rcases List.mem_cons.1 hm with e|e
     ·exact e1 e
     ·exact hn1 e) h1 s1
    rw[natMem_iff.2 hm]at hd
    cases hd.1
   ·have hb2:Nat.beq k id2=false:=by
     cases hb:Nat.beq k id2 with
     |false=>rfl
     |true=>exact absurd (Nat.eq_of_beq_eq_true hb).symm e2
    simp only[hget,hb2,cond_false]at h2
    have hd':nodupB (namesOf σ (k :: seen) h)=true:=by
     simp only[namesOf]at hd
     split at hd
     ·simp only[nodupB,Bool.and_eq_true]at hd;exact hd.2
     ·exact hd
    exact names_inj hd' id1 id2 x b1 b2 (fun hm=>by
     rcases List.mem_cons.1 hm with e|e
     ·exact e1 e
     ·exact hn1 e) (fun hm=>by
     rcases List.mem_cons.1 hm with e|e
     ·exact e2 e
     ·exact hn2 e) h1 h2 s1 s2
theorem gis_of {P:Program}{σ:Nm}{g:G}{h:Hp} (h1:HsOK P σ g [] h) (h2:nodupB (namesOf σ [] h)=true):GIs P σ (hget h) g :=
 ⟨fun id b' hb=>hsOK_get h1 id b' (by simp) hb,fun id1 id2 x b1 b2 a b c d=>names_inj h2 id1 id2 x b1 b2 (by simp) (by simp) a b c d⟩
end Go.X
