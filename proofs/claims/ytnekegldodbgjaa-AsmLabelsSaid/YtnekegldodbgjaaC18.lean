import Derived.Test.YtnekegldodbgjaaC17
namespace Go.X
open Go

def tD (D : Nat → Bool) : List Rec → Nat → Tm → Tm
  | [], _, t => t
  | r :: rs, i, t => tD D rs (i + 1) (cond (D i) (r.put ++ t) t)
def hD (D : Nat → Bool) : List Rec → Nat → Hp → Hp
  | [], _, h => h
  | r :: rs, i, h => hD D rs (i + 1) (cond (D i) (r.upd ++ h) h)

theorem tD_agree (D D' : Nat → Bool) (k : Nat) : ∀ (rs : List Rec) (i : Nat) (t t' : Tm), (∀ (j : Nat) r, rs[j]? = some r → look r.put k ≠ none → D (i + j) = D' (i + j)) →
    look t k = look t' k → look (tD D rs i t) k = look (tD D' rs i t') k
  | [], _, t, t', _, h => h
  | r :: rs, i, t, t', hd, h => by
    simp only [tD]
    refine tD_agree D D' k rs (i + 1) _ _ (fun j r' hj hk => ?_) ?_
    · have := hd (j + 1) r' (by simpa using hj) hk
      rwa [Nat.add_assoc, Nat.add_comm 1 j]
    · have h0 := hd 0 r rfl
      by_cases hp : look r.put k = none
      · have e1 : ∀ t, look (r.put ++ t) k = look t k := fun t => by rw [look_append, hp]
        cases D i <;> cases D' i <;> simp [e1, h]
      · have := h0 hp
        simp only [Nat.add_zero] at this
        rw [this]
        cases D' i
        · simp [h]
        · simp only [cond_true, look_append, h]

theorem hget_nin {u h : Hp} {id : Nat} (hn : id ∉ fstL u) : hget (u ++ h) id = hget h id := by
  induction u with
  | nil => rfl
  | cons x u ih =>
    obtain ⟨k, b⟩ := x
    simp only [fstL, List.mem_cons, not_or] at hn
    simp only [List.cons_append, hget, ih hn.2]
    cases hb : Nat.beq k id with
    | false => rfl
    | true => exact absurd (Nat.eq_of_beq_eq_true hb).symm hn.1
theorem hget_in {u h h' : Hp} {id : Nat} (hn : id ∈ fstL u) : hget (u ++ h) id = hget (u ++ h') id := by
  induction u with
  | nil => cases hn
  | cons x u ih =>
    obtain ⟨k, b⟩ := x
    simp only [List.cons_append, hget]
    cases hb : Nat.beq k id with
    | true => rfl
    | false =>
      simp only [fstL, List.mem_cons] at hn
      refine ih (hn.resolve_left fun e => ?_)
      subst e
      simp at hb

theorem hD_agree (D D' : Nat → Bool) (id : Nat) : ∀ (rs : List Rec) (i : Nat) (h h' : Hp), (∀ (j : Nat) r, rs[j]? = some r → id ∈ fstL r.upd → D (i + j) = D' (i + j)) →
    hget h id = hget h' id → hget (hD D rs i h) id = hget (hD D' rs i h') id
  | [], _, h, h', _, e => e
  | r :: rs, i, h, h', hd, e => by
    simp only [hD]
    refine hD_agree D D' id rs (i + 1) _ _ (fun j r' hj hk => ?_) ?_
    · have := hd (j + 1) r' (by simpa using hj) hk
      rwa [Nat.add_assoc, Nat.add_comm 1 j]
    · have h0 := hd 0 r rfl
      by_cases hp : id ∈ fstL r.upd
      · have := h0 hp
        simp only [Nat.add_zero] at this
        rw [this]
        cases D' i
        · simp [e]
        · simp only [cond_true]; exact hget_in hp
      · cases D i <;> cases D' i <;> simp [hget_nin hp, e]

theorem tD_none {D : Nat → Bool} : ∀ (rs : List Rec) (i : Nat) (t : Tm), (∀ j, i ≤ j → D j = false) → tD D rs i t = t
  | [], _, _, _ => rfl
  | r :: rs, i, t, h => by
    simp only [tD, h i (Nat.le_refl _), cond_false]
    exact tD_none rs (i + 1) t fun j hj => h j (by omega)
theorem hD_none {D : Nat → Bool} : ∀ (rs : List Rec) (i : Nat) (t : Hp), (∀ j, i ≤ j → D j = false) → hD D rs i t = t
  | [], _, _, _ => rfl
  | r :: rs, i, t, h => by
    simp only [hD, h i (Nat.le_refl _), cond_false]
    exact hD_none rs (i + 1) t fun j hj => h j (by omega)
theorem tD_all {D : Nat → Bool} : ∀ (rs : List Rec) (i : Nat) (t : Tm), (∀ j, i ≤ j → j < i + rs.length → D j = true) → tD D rs i t = putsOf rs t
  | [], _, _, _ => rfl
  | r :: rs, i, t, h => by
    simp only [tD, h i (Nat.le_refl _) (by simp), cond_true]
    exact tD_all rs (i + 1) _ fun j hj hl => h j (by omega) (by simp; omega)
theorem hD_all {D : Nat → Bool} : ∀ (rs : List Rec) (i : Nat) (t : Hp), (∀ j, i ≤ j → j < i + rs.length → D j = true) → hD D rs i t = updsOf rs t
  | [], _, _, _ => rfl
  | r :: rs, i, t, h => by
    simp only [hD, h i (Nat.le_refl _) (by simp), cond_true]
    exact hD_all rs (i + 1) _ fun j hj hl => h j (by omega) (by simp; omega)

def upto (m : Nat) : Nat → Bool := fun j => Nat.blt j m

theorem upto_lt {m j : Nat} (h : j < m) : upto m j = true := by simp [upto, h]
theorem upto_ge {m j : Nat} (h : m ≤ j) : upto m j = false := by
  unfold upto
  cases hb : Nat.blt j m with
  | false => rfl
  | true => have := blt_lt hb; omega

theorem tD_succ : ∀ (rs : List Rec) (i m : Nat) (t : Tm) (r : Rec), rs[m]? = some r → tD (upto (i + m + 1)) rs i t = r.put ++ tD (upto (i + m)) rs i t
  | [], _, m, _, _, h => by simp at h
  | r0 :: rs, i, 0, t, r, h => by
    simp at h; subst h
    simp only [tD, Nat.add_zero]
    rw [upto_lt (Nat.lt_succ_self i), upto_ge (Nat.le_refl i)]
    simp only [cond_true, cond_false]
    rw [tD_none _ _ _ fun j hj => upto_ge (by omega), tD_none _ _ _ fun j hj => upto_ge (by omega)]
  | r0 :: rs, i, m + 1, t, r, h => by
    simp at h
    simp only [tD]
    rw [upto_lt (show i < i + (m + 1) + 1 by omega), upto_lt (show i < i + (m + 1) by omega)]
    have := tD_succ rs (i + 1) m (r0.put ++ t) r h
    rw [show i + 1 + m = i + (m + 1) by omega] at this
    exact this
theorem hD_succ : ∀ (rs : List Rec) (i m : Nat) (t : Hp) (r : Rec), rs[m]? = some r → hD (upto (i + m + 1)) rs i t = r.upd ++ hD (upto (i + m)) rs i t
  | [], _, m, _, _, h => by simp at h
  | r0 :: rs, i, 0, t, r, h => by
    simp at h; subst h
    simp only [hD, Nat.add_zero]
    rw [upto_lt (Nat.lt_succ_self i), upto_ge (Nat.le_refl i)]
    simp only [cond_true, cond_false]
    rw [hD_none _ _ _ fun j hj => upto_ge (by omega), hD_none _ _ _ fun j hj => upto_ge (by omega)]
  | r0 :: rs, i, m + 1, t, r, h => by
    simp at h
    simp only [hD]
    rw [upto_lt (show i < i + (m + 1) + 1 by omega), upto_lt (show i < i + (m + 1) by omega)]
    have := hD_succ rs (i + 1) m (r0.upd ++ t) r h
    rw [show i + 1 + m = i + (m + 1) by omega] at this
    exact this

theorem xr_at {ce : CE} {hints : List (Nat × Nat)} : ∀ {os : List XOper} {rs : List Rec} {i : Nat} {t : Tm} {h : Hp} {n : Nat}, XR ce hints os i t h n rs →
    os.length = rs.length ∧ ∀ (m : Nat) xo r, os[m]? = some xo → rs[m]? = some r →
      StepR ce hints xo (i + m) (tD (upto (i + m)) rs i t) (hD (upto (i + m)) rs i h) r.n r ∧ n ≤ r.n ∧ r.n + r.news ≤ newsOf rs n
  | [], [], _, _, _, _, _ => ⟨rfl, fun m xo r h => by simp at h⟩
  | [], _ :: _, _, _, _, _, h => h.elim
  | _ :: _, [], _, _, _, _, h => h.elim
  | o :: os, r :: rs, i, t, h, n, hx => by
    obtain ⟨hs, hx⟩ := hx
    obtain ⟨hl, hat⟩ := xr_at hx
    refine ⟨by simp [hl], fun m xo r' ho hr => ?_⟩
    cases m with
    | zero =>
      simp at ho hr; subst ho; subst hr
      simp only [Nat.add_zero]
      rw [tD_none _ _ _ fun j hj => upto_ge hj, hD_none _ _ _ fun j hj => upto_ge hj]
      have : r.n = n := hs.1
      refine ⟨by rw [this]; exact hs, by omega, ?_⟩
      simp only [newsOf]; rw [this]; exact newsOf_le _ _
    | succ m =>
      simp at ho hr
      obtain ⟨h1, h2, h3⟩ := hat m xo r' ho hr
      rw [show i + 1 + m = i + (m + 1) by omega] at h1
      simp only [tD, hD]
      rw [upto_lt (show i < i + (m + 1) by omega)]
      exact ⟨h1, by omega, h3⟩

theorem xr_names {ce : CE} {hints : List (Nat × Nat)} : ∀ {os : List XOper} {rs : List Rec} {i : Nat} {t : Tm} {h : Hp} {n : Nat}, XR ce hints os i t h n rs →
    ∀ (j m : Nat) r r', j < m → rs[j]? = some r → rs[m]? = some r' → r.n + r.news ≤ r'.n
  | [], [], _, _, _, _, _ => fun j m r r' _ h => by simp at h
  | [], _ :: _, _, _, _, _, h => h.elim
  | _ :: _, [], _, _, _, _, h => h.elim
  | o :: os, r :: rs, i, t, h, n, hx => by
    obtain ⟨hs, hx⟩ := hx
    have hat := xr_at hx
    intro j m r1 r2 hjm h1 h2
    cases m with
    | zero => omega
    | succ m =>
      simp at h2
      cases j with
      | zero =>
        simp at h1; subst h1
        have hm : m < os.length := by rw [hat.1]; exact lt_of_get h2
        have := (hat.2 m os[m] r2 (by simp) h2).2.1
        have e : r.n = n := hs.1
        omega
      | succ j =>
        simp at h1
        exact xr_names hx j m r1 r2 (by omega) h1 h2

/-! ### what is ordered -/

def interB (l m : List Nat) : Bool := l.any fun x => natMem x m

def heapOK1 (ord : List (List Nat)) (a b : Foot) : Bool :=
  !Nat.blt a.i b.i || !(interB a.wr b.rd || interB a.wr b.wr || interB a.rd b.wr) || natMem a.i (ord.getD b.i [])
def heapOK (ord : List (List Nat)) (tr : List Foot) : Bool := tr.all fun a => tr.all fun b => heapOK1 ord a b

theorem natMem_iff {k : Nat} {l : List Nat} : natMem k l = true ↔ k ∈ l := by
  induction l with
  | nil => simp [natMem]
  | cons x l ih => simp only [natMem, Bool.or_eq_true, ih, List.mem_cons, Nat.beq_eq]; rw [eq_comm]

theorem interB_of {l m : List Nat} {x : Nat} (h : x ∈ l) (h' : x ∈ m) : interB l m = true := List.any_eq_true.2 ⟨x, h, natMem_iff.2 h'⟩

def HOrd (ord : List (List Nat)) (rs : List Rec) : Prop :=
  ∀ (i j : Nat) r r' id, i < j → rs[i]? = some r → rs[j]? = some r' → ((id ∈ fstL r.upd ∧ (id ∈ r'.rd ∨ id ∈ fstL r'.upd)) ∨ (id ∈ r.rd ∧ id ∈ fstL r'.upd)) → i ∈ ord.getD j []

theorem trOf_at : ∀ {rs : List Rec} {i : Nat} {tr : List Foot}, TrOf rs i tr → ∀ (j : Nat) r, rs[j]? = some r → (r.rd = [] ∧ r.upd = []) ∨ ⟨i + j, r.rd, fstL r.upd⟩ ∈ tr
  | [], _, _, _, j, r, h => by simp at h
  | r0 :: rs, i, tr, h, j, r, hj => by
    cases j with
    | zero => simp at hj; subst hj; exact h.1
    | succ j =>
      simp at hj
      have := trOf_at h.2 j r hj
      rwa [show i + 1 + j = i + (j + 1) by omega] at this

theorem hOrd_of {ord : List (List Nat)} {rs : List Rec} {tr : List Foot} (ht : TrOf rs 0 tr) (h : heapOK ord tr = true) : HOrd ord rs := by
  intro i j r r' id hij hi hj hid
  have h1 := trOf_at ht i r hi
  have h2 := trOf_at ht j r' hj
  simp only [Nat.zero_add] at h1 h2
  have hne : ∀ x : Rec, x.rd = [] ∧ x.upd = [] → id ∉ x.rd ∧ id ∉ fstL x.upd := fun x e => by rw [e.1, e.2]; simp [fstL]
  rcases h1 with h1 | h1
  · have := hne r h1
    rcases hid with ⟨a, _⟩ | ⟨a, _⟩
    · exact absurd a this.2
    · exact absurd a this.1
  rcases h2 with h2 | h2
  · have := hne r' h2
    rcases hid with ⟨_, a | a⟩ | ⟨_, a⟩
    · exact absurd a this.1
    · exact absurd a this.2
    · exact absurd a this.2
  have := List.all_eq_true.1 (List.all_eq_true.1 h _ h1) _ h2
  simp only [heapOK1, Bool.or_eq_true, Bool.not_eq_true'] at this
  rcases this with (h | h) | h
  · have hb : Nat.blt i j = true := by simp [hij]
    rw [hb] at h; cases h
  · exfalso
    simp only [Bool.or_eq_false_iff] at h
    rcases hid with ⟨a, b | b⟩ | ⟨a, b⟩
    · rw [interB_of a b] at h; exact absurd h.1.1 (by simp)
    · rw [interB_of a b] at h; exact absurd h.1.2 (by simp)
    · rw [interB_of a b] at h; exact absurd h.2 (by simp)
  · exact natMem_iff.1 h

def SOrd (ord : List (List Nat)) (l : List XOper) : Prop :=
  ∀ (i j : Nat) x y k, i < j → l[i]? = some x → l[j]? = some y → ((x.dst = some k ∧ (k ∈ y.looks ∨ y.dst = some k)) ∨ (y.dst = some k ∧ k ∈ x.looks)) → i ∈ ord.getD j []

theorem slotOK1_at {x : XOper} {i : Nat} {ord : List (List Nat)} : ∀ {l : List XOper} {j : Nat}, slotOK1 x i l j ord = true → ∀ (k : Nat) y, l[k]? = some y →
    (!(dstIn x y.looks || sameDst x y || dstIn y x.looks) || natMem i (ord.getD (j + k) [])) = true
  | [], _, _, k, y, h => by simp at h
  | y0 :: l, j, h, k, y, hk => by
    simp only [slotOK1, Bool.and_eq_true] at h
    cases k with
    | zero => simp at hk; subst hk; exact h.1
    | succ k =>
      simp at hk
      have := slotOK1_at h.2 k y hk
      rwa [show j + 1 + k = j + (k + 1) by omega] at this

theorem slotOK_at {ord : List (List Nat)} : ∀ {l : List XOper} {i : Nat}, slotOK l i ord = true → ∀ (a b : Nat) x y, a < b → l[a]? = some x → l[b]? = some y →
    (!(dstIn x y.looks || sameDst x y || dstIn y x.looks) || natMem (i + a) (ord.getD (i + b) [])) = true
  | [], _, _, a, b, x, y, _, h, _ => by simp at h
  | x0 :: l, i, h, a, b, x, y, hab, ha, hb => by
    simp only [slotOK, Bool.and_eq_true] at h
    cases b with
    | zero => omega
    | succ b =>
      simp at hb
      cases a with
      | zero =>
        simp at ha; subst ha
        have := slotOK1_at h.1 b y hb
        rwa [show i + 1 + b = i + (b + 1) by omega] at this
      | succ a =>
        simp at ha
        have := slotOK_at h.2 a b x y (by omega) ha hb
        rwa [show i + 1 + b = i + (b + 1) by omega, show i + 1 + a = i + (a + 1) by omega] at this

theorem sOrd_of {ord : List (List Nat)} {l : List XOper} (h : slotOK l 0 ord = true) : SOrd ord l := by
  intro i j x y k hij hi hj hk
  have := slotOK_at h i j x y hij hi hj
  simp only [Nat.zero_add, Bool.or_eq_true, Bool.not_eq_true', Bool.or_eq_false_iff] at this
  rcases this with h | h
  · exfalso
    obtain ⟨⟨h1, h2⟩, h3⟩ := h
    rcases hk with ⟨a, b | b⟩ | ⟨a, b⟩
    · simp only [dstIn, a] at h1; rw [natMem_iff.2 b] at h1; cases h1
    · simp only [sameDst, a, b] at h2; simp at h2
    · simp only [dstIn, a] at h3; rw [natMem_iff.2 b] at h3; cases h3
  · exact natMem_iff.1 h
end Go.X
