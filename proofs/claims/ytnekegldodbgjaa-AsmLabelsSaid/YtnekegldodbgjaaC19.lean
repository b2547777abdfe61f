import Derived.Test.YtnekegldodbgjaaC18
namespace Go.X
open Go

def unl : List Bool → Nat
  | [] => 0
  | b :: l => cond b 0 1 + unl l

theorem unl_set : ∀ (l : List Bool) (i : Nat), l[i]? = some false → unl (l.set i true) + 1 = unl l
  | [], i, h => by simp at h
  | b :: l, 0, h => by simp at h; subst h; simp [unl]; omega
  | b :: l, i + 1, h => by
    simp at h
    have := unl_set l i h
    simp only [List.set_cons_succ, unl]; omega
theorem unl_zero : ∀ (l : List Bool), unl l = 0 → ∀ (i : Nat), i < l.length → l[i]? = some true
  | [], _, i, h => by simp at h
  | b :: l, h, i, hi => by
    simp only [unl] at h
    cases b with
    | false => simp at h
    | true =>
      cases i with
      | zero => rfl
      | succ i =>
        simp only [cond_true, Nat.zero_add] at h
        simp at hi ⊢
        have := unl_zero l h i hi
        simpa using this
theorem unl_replicate : ∀ n, unl (List.replicate n false) = n
  | 0 => rfl
  | n + 1 => by simp [List.replicate_succ, unl, unl_replicate n]; omega

theorem gapply_hget {r h : Hp} {id : Nat} : gapply (hget h) r id = hget (r ++ h) id := (hget_append _ _ _).symm
theorem gapply_nin {g : G} {u : Hp} {id : Nat} (hn : id ∉ fstL u) : gapply g u id = g id := by
  induction u with
  | nil => rfl
  | cons x u ih =>
    obtain ⟨k, b⟩ := x
    simp only [fstL, List.mem_cons, not_or] at hn
    simp only [gapply]
    rw [gset_ne _ _ hn.1, ih hn.2]
theorem gapply_in {g g' : G} {u : Hp} {id : Nat} (hn : id ∈ fstL u) : gapply g u id = gapply g' u id := by
  induction u with
  | nil => cases hn
  | cons x u ih =>
    obtain ⟨k, b⟩ := x
    simp only [gapply]
    by_cases e : id = k
    · subst e; rw [gset_same, gset_same]
    · rw [gset_ne _ _ e, gset_ne _ _ e]
      exact ih ((List.mem_cons.1 hn).resolve_left e)

section
variable {P : Program} {N : Nat} {B : Base} {ce : CE} {hints : List (Nat × Nat)} {ops : Array Oper} {Q : Exit → Act → World → Prop} {l : List XOper} {ord : List (List Nat)} {rs : List Rec} {s : St}

def Dn (listed : Array Bool) : Nat → Bool := fun j => listed.getD j false

structure DInv (P : Program) (N : Nat) (B : Base) (ops : Array Oper) (ord : List (List Nat)) (rs : List Rec) (s : St) (listed : Array Bool) (a : Act) (w : World) : Prop where
  size : listed.size = ops.size
  shut : ∀ i, Dn listed i = true → ∀ j ∈ ord.getD i [], Dn listed j = true
  core : ∃ ρ, Core P N B ρ (tD (Dn listed) rs 0 s.t) (hget (hD (Dn listed) rs 0 s.h)) a w ∧ (∀ id, newsOf rs s.n ≤ id → ρ id = B.ρ id) ∧
    ∀ (m : Nat) r, rs[m]? = some r → Dn listed m = false → ∀ id, r.n ≤ id → id < r.n + r.news → ρ id = none

theorem dn_set {listed : Array Bool} {m j : Nat} (hm : m < listed.size) : Dn (listed.setIfInBounds m true) j = (decide (j = m) || Dn listed j) := by
  unfold Dn
  by_cases e : j = m
  · subst e; simp [hm]
  · rw [getD_set_ne false (Ne.symm e)]; simp [e]

theorem dstep (hce : CEok P ce) (hc : Comps P N ops l) (hord : ordOK ops.toList ord = true) (hS : SOrd ord l) (hH : HOrd ord rs)
    (hx : XR ce hints l 0 s.t s.h s.n rs) (hsp : ∃ k, newsOf rs s.n ≤ k ∧ B.ρ k = none) (hBn : B.n ≤ s.n) {listed : Array Bool} {a : Act} {w : World} (hI : DInv P N B ops ord rs s listed a w) {m : Nat} (hm : m ∈ Region.ready .any ops listed)
    {K : Act → World → Prop} (hK : ∀ a' w', DInv P N B ops ord rs s (listed.setIfInBounds m true) a' w' → K a' w') : wpOp P ops Q m K a w := by
  obtain ⟨hun, o, ho, hall⟩ := mem_ready.1 hm
  have hmlt : m < ops.size := (Array.getElem?_eq_some_iff.1 ho).1
  have hml : m < listed.size := by rw [hI.size]; exact hmlt
  have hDm : Dn listed m = false := by
    unfold Dn; simpa [hml] using hun
  obtain ⟨hlen, hat⟩ := xr_at hx
  have hlm : m < l.length := by rw [hc.1]; exact hmlt
  have hlo : l[m]? = some l[m] := by simp [hlm]
  generalize hxo : l[m] = xo at hlo
  have hrm : m < rs.length := by rw [← hlen]; exact hlm
  have hro : rs[m]? = some rs[m] := by simp [hrm]
  generalize hr : rs[m] = r at hro
  obtain ⟨o', ho', hco⟩ := hc.2 m xo hlo
  rw [ho] at ho'; cases ho'
  obtain ⟨hs, hn1, hn2⟩ := hat m xo r hlo hro
  simp only [Nat.zero_add] at hs
  -- what is sure to have come
  have hpast : ∀ j ∈ ord.getD m [], Dn listed j = true := by
    intro j hj
    have h1 := List.all_eq_true.1 (List.all_eq_true.1 hord m (by simpa using hmlt)) j hj
    have ho2 : ops.toList[m]? = some o := by simpa using ho
    simp only [ho2] at h1
    obtain ⟨e, he, hb⟩ := List.any_eq_true.1 h1
    simp only [Bool.and_eq_true, Bool.or_eq_true] at hb
    have hd : Dn listed e.on = true := hall e (by simpa using he) hb.1
    rcases hb.2 with h | h
    · rw [← Nat.eq_of_beq_eq_true h]; exact hd
    · exact hI.shut e.on hd j (by simpa using h)
  have hfut : ∀ j, m ∈ ord.getD j [] → Dn listed j = false := by
    intro j hj
    cases hd : Dn listed j with
    | false => rfl
    | true => rw [hI.shut j hd m hj] at hDm; cases hDm
  have hxoOf : ∀ (j : Nat) r', rs[j]? = some r' → ∃ xo', l[j]? = some xo' ∧ ∃ c v, r'.put = putT [] xo'.dst c v := by
    intro j r' hj
    have hjl : j < l.length := by rw [hlen]; exact lt_of_get hj
    exact ⟨l[j], by simp [hjl], stepR_put (hat j l[j] r' (by simp [hjl]) hj).1⟩
  have hwr : ∀ (j : Nat) r' k, rs[j]? = some r' → look r'.put k ≠ none → ∃ xo', l[j]? = some xo' ∧ xo'.dst = some k := by
    intro j r' k hj hk
    obtain ⟨xo', h1, c, v, h2⟩ := hxoOf j r' hj
    refine ⟨xo', h1, ?_⟩
    by_cases e : xo'.dst = some k
    · exact e
    · rw [h2, look_putT_ne e] at hk; exact absurd rfl hk
  -- what is looked at
  have slotS : ∀ k, (k ∈ xo.looks ∨ xo.dst = some k) → ∀ (j : Nat) r', rs[j]? = some r' → look r'.put k ≠ none → j ≠ m → Dn listed j = upto m j := by
    intro k hk j r' hj hp hne
    obtain ⟨xo', h1, h2⟩ := hwr j r' k hj hp
    rcases Nat.lt_or_gt_of_ne hne with h | h
    · rw [upto_lt h]; exact hpast j (hS j m xo' xo k h h1 hlo (.inl ⟨h2, hk⟩))
    · rw [upto_ge (Nat.le_of_lt h)]
      refine hfut j (hS m j xo xo' k h hlo h1 ?_)
      rcases hk with hk | hk
      · exact .inr ⟨h2, hk⟩
      · exact .inl ⟨hk, .inr h2⟩
  have heapS : ∀ id, (id ∈ r.rd ∨ id ∈ fstL r.upd) → ∀ (j : Nat) r', rs[j]? = some r' → id ∈ fstL r'.upd → j ≠ m → Dn listed j = upto m j := by
    intro id hid j r' hj hp hne
    rcases Nat.lt_or_gt_of_ne hne with h | h
    · rw [upto_lt h]; exact hpast j (hH j m r' r id h hj hro (.inl ⟨hp, hid⟩))
    · rw [upto_ge (Nat.le_of_lt h)]
      refine hfut j (hH m j r r' id h hro hj ?_)
      rcases hid with hid | hid
      · exact .inr ⟨hid, hp⟩
      · exact .inl ⟨hid, .inr hp⟩
  have hmm : Dn listed m = upto m m := by rw [hDm, upto_ge (Nat.le_refl _)]
  obtain ⟨ρ, hcore, hfree, hnames⟩ := hI.core
  refine step_sound hce ho hco hs (ρ := ρ) (g := hget (hD (Dn listed) rs 0 s.h)) ?_ hcore.rel ?_ (hnames m r hro hDm) (by obtain ⟨k, hk, hk'⟩ := hsp; exact ⟨k, by omega, by rw [hfree k hk]; exact hk'⟩) ?_
  · intro k hk b v hl
    refine hcore.tm k b v ?_
    rw [← hl]
    refine tD_agree _ _ k rs 0 _ _ (fun j r' hj hp => ?_) rfl
    rw [Nat.zero_add]
    by_cases e : j = m
    · rw [e]; exact hmm
    · exact slotS k (.inl hk) j r' hj hp e
  · intro id hid
    refine hD_agree _ _ id rs 0 _ _ (fun j r' hj hp => ?_) rfl
    rw [Nat.zero_add]
    by_cases e : j = m
    · rw [e]; exact hmm
    · exact heapS id (.inl hid) j r' hj hp e
  intro ρ' w' u hgood hu
  refine hK _ _ ⟨by simpa using hI.size, ?_, ρ', ?_, ?_, ?_⟩
  · intro i hi j hj
    rw [dn_set hml] at hi ⊢
    simp only [Bool.or_eq_true, decide_eq_true_eq] at hi ⊢
    rcases hi with rfl | hi
    · exact .inr (hpast j hj)
    · exact .inr (hI.shut i hi j hj)
  · refine Core.congr (hcore.step hgood (Nat.le_trans hBn hn1) (tm_put (t := tD (Dn listed) rs 0 s.t) (p := r.put) (hcore.tm.mono hgood.le) (stepR_put hs) (comp_dst hco) hcore.sz hu ?_ ?_)) ?_
    · intro k hk
      have h1 : look (tD (Dn (listed.setIfInBounds m true)) rs 0 s.t) k = look (tD (upto (m + 1)) rs 0 s.t) k := by
        refine tD_agree _ _ k rs 0 _ _ (fun j r' hj hp => ?_) rfl
        rw [Nat.zero_add, dn_set hml]
        by_cases e : j = m
        · subst e; rw [upto_lt (Nat.lt_succ_self _)]; simp
        · rw [slotS k (.inr hk) j r' hj hp e]
          rcases Nat.lt_or_gt_of_ne e with h | h
          · rw [upto_lt h, upto_lt (show j < m + 1 by omega)]; simp
          · rw [upto_ge (Nat.le_of_lt h), upto_ge (show m + 1 ≤ j by omega)]; simp [e]
      rw [h1]
      have h2 := tD_succ rs 0 m s.t r hro
      rw [Nat.zero_add] at h2
      rw [h2, look_append]
      obtain ⟨c, v, hp⟩ := stepR_put hs
      rw [hp, hk, look_putT_eq]
    · intro k hk
      refine tD_agree _ _ k rs 0 _ _ (fun j r' hj hp => ?_) rfl
      rw [Nat.zero_add, dn_set hml]
      by_cases e : j = m
      · subst e
        rw [hro] at hj; cases hj
        obtain ⟨c, v, hp'⟩ := stepR_put hs
        rw [hp', look_putT_ne hk] at hp
        exact absurd rfl hp
      · simp [e]
    · intro id
      by_cases hid : id ∈ fstL r.upd
      · have h1 : hget (hD (Dn (listed.setIfInBounds m true)) rs 0 s.h) id = hget (hD (upto (m + 1)) rs 0 s.h) id := by
          refine hD_agree _ _ id rs 0 _ _ (fun j r' hj hp => ?_) rfl
          rw [Nat.zero_add, dn_set hml]
          by_cases e : j = m
          · subst e; rw [upto_lt (Nat.lt_succ_self _)]; simp
          · rw [heapS id (.inr hid) j r' hj hp e]
            rcases Nat.lt_or_gt_of_ne e with h | h
            · rw [upto_lt h, upto_lt (show j < m + 1 by omega)]; simp
            · rw [upto_ge (Nat.le_of_lt h), upto_ge (show m + 1 ≤ j by omega)]; simp [e]
        have h2 := hD_succ rs 0 m s.h r hro
        rw [Nat.zero_add] at h2
        rw [h1, h2, hget_append]
        exact gapply_in hid
      · rw [gapply_nin hid]
        refine hD_agree _ _ id rs 0 _ _ (fun j r' hj hp => ?_) rfl
        rw [Nat.zero_add, dn_set hml]
        by_cases e : j = m
        · subst e
          rw [hro] at hj; cases hj
          exact absurd hp hid
        · simp [e]
  · intro id hid
    rw [← hfree id hid]
    cases hx0 : ρ id with
    | some l => exact hgood.le id l hx0
    | none =>
      cases hx' : ρ' id with
      | none => rfl
      | some b =>
        have := hgood.new id hx0 (by rw [hx']; simp)
        omega
  · intro m' r' hr' hd' id h1 h2
    rw [dn_set hml] at hd'
    simp only [Bool.or_eq_false_iff, decide_eq_false_iff_not] at hd'
    cases hx' : ρ' id with
    | none => rfl
    | some b =>
      have hb := hgood.new id (hnames m' r' hr' hd'.2 id h1 h2) (by rw [hx']; simp)
      rcases Nat.lt_or_gt_of_ne hd'.1 with h | h
      · have := xr_names hx m' m r' r h hr' hro
        omega
      · have := xr_names hx m m' r r' h hro hr'
        omega

theorem all_listed (htopo : topoOK ops.toList = true) {listed : Array Bool} (hsz : listed.size = ops.size) (hr : Region.ready .any ops listed = []) : ∀ j, j < ops.size → Dn listed j = true := by
  intro j
  induction j using Nat.strongRecOn with
  | _ j ih =>
    intro hj
    cases hd : Dn listed j with
    | true => rfl
    | false =>
      have : j ∈ Region.ready .any ops listed := by
        refine mem_ready.2 ⟨?_, ops[j], by simp [hj], fun e he hb => ?_⟩
        · have hjl : j < listed.size := by rw [hsz]; exact hj
          unfold Dn at hd; simpa [hjl] using hd
        · have h1 := List.all_eq_true.1 htopo j (by simpa using hj)
          have ho2 : ops.toList[j]? = some ops[j] := by simp [hj]
          simp only [ho2] at h1
          have h2 := List.all_eq_true.1 h1 e (by simpa using he)
          rw [hb] at h2
          have hlt : e.on < j := by simpa using h2
          exact ih e.on hlt (by omega)
      rw [hr] at this; cases this

theorem draw_any (hce : CEok P ce) (hc : Comps P N ops l) (hord : ordOK ops.toList ord = true) (htopo : topoOK ops.toList = true) (hS : SOrd ord l) (hH : HOrd ord rs)
    (hx : XR ce hints l 0 s.t s.h s.n rs) (hsp : ∃ k, newsOf rs s.n ≤ k ∧ B.ρ k = none) (hBn : B.n ≤ s.n) (hQ : ∀ a' w', Rel P N B ⟨putsOf rs s.t, updsOf rs s.h, newsOf rs s.n⟩ a' w' → Q .normal a' w') :
    ∀ (fuel : Nat) (listed : Array Bool) (a : Act) (w : World), unl listed.toList ≤ fuel → DInv P N B ops ord rs s listed a w → wpAny P .any ops Q fuel listed a w := by
  have fin : ∀ (listed : Array Bool) (a : Act) (w : World), DInv P N B ops ord rs s listed a w → (∀ j, j < ops.size → Dn listed j = true) → Q .normal a w := by
    intro listed a w hI hall
    obtain ⟨ρ, hcore, hfree, _⟩ := hI.core
    have hlen : rs.length = ops.size := by rw [← (xr_at hx).1, hc.1]
    rw [tD_all rs 0 s.t fun j _ hj => hall j (by omega), hD_all rs 0 s.h fun j _ hj => hall j (by omega)] at hcore
    exact hQ a w ⟨Nat.le_trans hBn (newsOf_le _ _), ρ, hcore, hfree⟩
  intro fuel
  induction fuel with
  | zero =>
    intro listed a w hf hI
    have hall : ∀ j, j < ops.size → Dn listed j = true := fun j hj => by
      have := unl_zero listed.toList (by omega) j (by simpa [hI.size] using hj)
      unfold Dn
      have h2 : listed[j]? = some true := by simpa using this
      simp [h2]
    refine ⟨?_, fin listed a w hI hall⟩
    apply List.eq_nil_iff_forall_not_mem.2
    intro j hj
    obtain ⟨h0, o, ho, _⟩ := mem_ready.1 hj
    have hlt := (Array.getElem?_eq_some_iff.1 ho).1
    have h1 := hall j hlt
    unfold Dn at h1
    have hjl : j < listed.size := by rw [hI.size]; exact hlt
    simp [hjl] at h0 h1
    rw [h0] at h1; cases h1
  | succ fuel ih =>
    intro listed a w hf hI
    refine ⟨fun hr => fin listed a w hI (all_listed htopo hI.size hr), fun m hm => ?_⟩
    refine dstep hce hc hord hS hH hx hsp hBn hI hm fun a' w' hI' => ih _ a' w' ?_ hI'
    obtain ⟨hun, o, ho, _⟩ := mem_ready.1 hm
    have hmlt : m < ops.size := (Array.getElem?_eq_some_iff.1 ho).1
    have hml : m < listed.size := by rw [hI.size]; exact hmlt
    have h0 : listed.toList[m]? = some false := by simpa [hml] using hun
    have := unl_set _ _ h0
    simp only [Array.toList_setIfInBounds]
    omega

theorem region_draw (hmix : P.follows .mixedOrders = true) (hce : CEok P ce) (hc : Comps P N ops l) (hord : ordOK ops.toList ord = true) (htopo : topoOK ops.toList = true) (hS : SOrd ord l) (hH : HOrd ord rs)
    (hx : XR ce hints l 0 s.t s.h s.n rs) (hfr : ∀ id, s.n ≤ id → id < newsOf rs s.n → B.ρ id = none) (hsp : ∃ k, newsOf rs s.n ≤ k ∧ B.ρ k = none) {a : Act} {w : World} {id : Nat} (hr : Rel P N B s a w) (hQ : ∀ a' w', Rel P N B ⟨putsOf rs s.t, updsOf rs s.h, newsOf rs s.n⟩ a' w' → Q .normal a' w') :
    (Code.region id ops true).wp P Q a w := by
  obtain ⟨hBn, ρ, hcore, hfree⟩ := hr
  refine wp_region_any hmix (draw_any hce hc hord htopo hS hH hx hsp hBn hQ _ _ _ _ ?_ ?_)
  · simp [unl_replicate]
  · have hd : ∀ j, Dn (Array.replicate ops.size false) j = false := fun j => by
      unfold Dn
      by_cases h : j < ops.size <;> simp [h]
    refine ⟨by simp, fun i hi => (by rw [hd] at hi; cases hi), ρ, ?_, fun id hid => hfree id (Nat.le_trans (newsOf_le _ _) hid), fun m r hm _ id h1 h2 => ?_⟩
    · rw [tD_none _ _ _ fun j _ => hd j, hD_none _ _ _ fun j _ => hd j]
      exact hcore.drew
    · have hml : m < l.length := by rw [(xr_at hx).1]; exact lt_of_get hm
      have := ((xr_at hx).2 m l[m] r (by simp [hml]) hm).2
      rw [hfree id (by omega)]
      exact hfr id (by omega) (by omega)
end
end Go.X
