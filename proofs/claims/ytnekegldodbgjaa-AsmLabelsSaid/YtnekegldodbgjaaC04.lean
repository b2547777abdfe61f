import Derived.Test.YtnekegldodbgjaaC03
import Derived.Laws.Tables
import Derived.Great.BuildSlice
import Derived.Laws.MakeOwn
namespace Go.X
open Go

def GL (g : G) : List Nat → List Blk → Prop
  | [], [] => True
  | id :: ids, b :: bs => g id = some b ∧ GL g ids bs
  | _, _ => False

/-- A value read, as an operation. -/
abbrev vS (s : Sem Value) : Sem Next := do pure (.value (← s))
abbrev uS (s : Sem Unit) : Sem Next := do s; pure .skip

theorem run_vS {P : Program} {s : Sem Value} {w w' : World} {c : Value} (h : s.run P w = .ok c w') : (vS s).run P w = .ok (.value c) w' := by
  simp [vS, h]
theorem run_uS {P : Program} {s : Sem Unit} {w w' : World} (h : s.run P w = .ok () w') : (uS s).run P w = .ok .skip w' := by
  simp [uS, h]

theorem Runs.pureS {P : Program} {s : Sem Value} {ρ : Rn} {g : G} {w : World} {n : Nat} {r : Res} {v c : Value} (h : RelH P ρ g w) (hs : s.run P w = .ok c w)
    (hr : ∃ ok, rv v ok = some r) (hv : V ρ v c) : Runs P (vS s) ρ g w n r := by
  obtain ⟨ok, hr⟩ := hr
  simp only [rv, Option.some.injEq] at hr
  subst hr
  exact Runs.pure h (run_vS hs) hv

theorem blt_lt {a b : Nat} (h : Nat.blt a b = true) : a < b := Nat.le_of_ble_eq_true h
theorem ble_le {a b : Nat} (h : Nat.ble a b = true) : a ≤ b := Nat.le_of_ble_eq_true h

theorem must_some {b : Bool} {r : Option Res} {x : Res} (h : must b r = some x) : b = true ∧ r = some x := by
  cases b
  · cases h
  · exact ⟨rfl, h⟩

theorem getElem?_of_getD {l : List Value} {i : Nat} (h : i < l.length) : l[i]? = some (l.getD i undefd) := by
  simp [List.getD, h]

theorem isI_eq {k : IntKind} {v : Value} (h : isI k v = true) : v = .int k (asI v) := by
  cases v <;> simp [isI] at h
  subst h; rfl
theorem isB_eq {v : Value} (h : isB v = true) : v = .bool (asB v) := by
  cases v <;> simp [isB] at h
  rfl
theorem isS_eq {v : Value} (h : isS v = true) : v = .string (asS v) := by
  cases v <;> simp [isS] at h
  rfl

/-- What a read of a row comes to. -/
theorem readAt_some {lk : LK} {k : Nat} {dyn : Bool} {l : List Value} {i : Nat} {ok : Bool} {r : Res} (h : readAt lk k dyn l i ok = some r) (hok : r.ok = true) :
    ok = true ∧ (lk.isAgg = true → i + k ≤ l.length ∧ rv (.agg ⟨slab l i k⟩) r.ok = some r) ∧ (lk.isAgg = false → i < l.length ∧ rv (l.getD i undefd) r.ok = some r) := by
  unfold readAt at h
  have one : must (Nat.blt i l.length) (fz (l.getD i undefd) fun v => rv v ok) = some r → lk.isAgg = false → ok = true ∧ (lk.isAgg = true → i + k ≤ l.length ∧ rv (.agg ⟨slab l i k⟩) r.ok = some r) ∧ (lk.isAgg = false → i < l.length ∧ rv (l.getD i undefd) r.ok = some r) := by
    intro h hl
    obtain ⟨h1, h2⟩ := must_some h
    rw [fz_eq] at h2
    simp only [rv, Option.some.injEq] at h2
    subst h2
    exact ⟨hok, (by intro h; rw [hl] at h; cases h), fun _ => ⟨blt_lt h1, rfl⟩⟩
  cases dyn with
  | false =>
    cases lk with
    | agg =>
      simp only at h
      obtain ⟨h1, h2⟩ := must_some h
      rw [normL_eq] at h2
      simp only [rv, Option.some.injEq] at h2
      subst h2
      exact ⟨hok, fun _ => ⟨Nat.le_of_ble_eq_true h1, rfl⟩, fun h => by cases h⟩
    | _ => exact one h rfl
  | true =>
    cases lk with
    | agg =>
      simp only [rv, Option.some.injEq] at h
      subst h
      simp only [Bool.and_eq_true] at hok
      exact ⟨hok.1, fun _ => ⟨Nat.le_of_ble_eq_true hok.2, rfl⟩, fun h => by cases h⟩
    | one =>
      simp only [rv, Option.some.injEq] at h
      subst h
      simp only [Bool.and_eq_true] at hok
      exact ⟨hok.1, (by intro h; cases h), fun _ => ⟨blt_lt hok.2, rfl⟩⟩
    | int q =>
      simp only [rv, Option.some.injEq] at h
      subst h
      simp only [Bool.and_eq_true] at hok
      refine ⟨hok.1, (by intro h; cases h), fun _ => ⟨blt_lt hok.2.1, ?_⟩⟩
      simp only [rv]
      rw [← isI_eq hok.2.2]
    | bool =>
      simp only [rv, Option.some.injEq] at h
      subst h
      simp only [Bool.and_eq_true] at hok
      refine ⟨hok.1, (by intro h; cases h), fun _ => ⟨blt_lt hok.2.1, ?_⟩⟩
      simp only [rv]
      rw [← isB_eq hok.2.2]
    | str =>
      simp only [rv, Option.some.injEq] at h
      subst h
      simp only [Bool.and_eq_true] at hok
      refine ⟨hok.1, (by intro h; cases h), fun _ => ⟨blt_lt hok.2.1, ?_⟩⟩
      simp only [rv]
      rw [← isS_eq hok.2.2]

/-- The cells of a row, as they lie. -/
def RowIs (b : Blk) (idx : Nat) (cs : List Value) : Prop :=
  b = .var cs ∨ ∃ m s f o r, b = .rows m s f o r ∧ idx < m ∧ cs = f idx

theorem lt_of_get {α : Type} {l : List α} {i : Nat} {v : α} (h : l[i]? = some v) : i < l.length := by
  rcases Nat.lt_or_ge i l.length with h' | h'
  · exact h'
  · simp [List.getElem?_eq_none h'] at h

theorem row_cell {P : Program} {ρ : Rn} {w : World} {l : L} {b : Blk} {idx : Nat} {cs : List Value} (hh : Holds P ρ w l b) (hrow : RowIs b idx cs)
    {o : Nat} {v : Value} (hv : cs[o]? = some v) : ∃ u, w.cell? (l.addr.add (idx * l.stride + o)) = some u ∧ V ρ v u := by
  rcases hrow with rfl | ⟨m, s, f, op, r, rfl, hlt, rfl⟩
  · obtain ⟨⟨h1, hs0⟩, c, e, lo, hi, h2, h3, h4, h5⟩ := hh
    rw [hs0]
    obtain ⟨u, hu, hvu⟩ := h5 o v hv
    refine ⟨u, ?_, hvu.2⟩
    simp only [World.cell?, addr_add_block, h2]
    have hs : (l.addr.add (idx * 0 + o)).spot = none := by
      simp only [Addr.add]; split
      · exact h1
      · rfl
    rw [hs]
    simp only [Option.isSome_none, Bool.false_eq_true, if_false]
    have : (l.addr.add (idx * 0 + o)).off = l.addr.off + o := by
      simp only [Addr.add, Nat.mul_zero, Nat.zero_add]; split
      · rename_i h; omega
      · rfl
    rw [this]; exact hu
  · obtain ⟨h1, h2, h3, h4⟩ := hh
    rw [h1]
    obtain ⟨u, hu, hvu⟩ := (h3 idx hlt).2 o v hv
    exact ⟨u, hu, hvu.2⟩

theorem run_loadCells_VL {P : Program} {ρ : Rn} {w : World} {a : Addr} {k : Nat} {vs : List Value} (hl : vs.length = k)
    (h : ∀ (o : Nat) v, vs[o]? = some v → ∃ u, w.cell? (a.add o) = some u ∧ V ρ v u) : ∃ us, (loadCells a k).run P w = .ok us w ∧ VL ρ vs us.toList := by
  have hf : ∃ f : Nat → Value, ∀ j, j < k → w.cell? (a.add j) = some (f j) ∧ ∀ v, vs[j]? = some v → V ρ v (f j) := by
    refine ⟨fun j => (w.cell? (a.add j)).getD undef, fun j hj => ?_⟩
    obtain ⟨u, hu, hvu⟩ := h j (vs[j]'(by omega)) (by simp)
    refine ⟨by simp [hu], fun v hv => ?_⟩
    simp only [hu, Option.getD_some]
    have : vs[j]? = some (vs[j]'(by omega)) := by simp
    rw [this] at hv; cases hv; exact hvu
  obtain ⟨f, hf⟩ := hf
  have hr := run_loadCells (P := P) (w := w) a k f (fun j hj => (hf j hj).1)
  refine ⟨_, hr, VL.of_get (by simp [hl]) fun i v c hv hc => ?_⟩
  have hi := lt_of_get hv
  have hik : i < k := by omega
  have hc' : (List.map f (List.range k))[i]? = some (f i) := by simp [hik]
  simp only [hc', Option.some.injEq] at hc
  subst hc
  exact (hf i (by omega)).2 v hv

theorem lkT_agg {P : Program} {t : TypeId} {lk : LK} (h : lkT P t = some lk) : aggT P t = some lk.isAgg := by
  unfold lkT at h
  unfold aggT
  split at h <;> first | (cases h; done) | (cases h; rename_i hu; rw [hu]; rfl) | skip
  rename_i d h1 h2 h3 h4 h5 hu
  cases h
  rw [hu]
  cases d <;> first | rfl | exact absurd rfl (h1 _) | exact absurd rfl (h2 _ _)

theorem isAgg_run {P : Program} {w : World} {t : TypeId} {a : Bool} (h : aggT P t = some a) : (isAgg t).run P w = .ok a w := by
  unfold aggT at h
  unfold isAgg
  split at h
  · rename_i x hu; cases h; simp [run_underlying hu]
  · rename_i x y hu; cases h; simp [run_underlying hu]
  · rename_i d h1 h2 hu
    cases h
    simp only [Sem.run_bind, run_underlying hu, Result.andThen_ok]
    cases hu' : d with
    | struct f => exact absurd hu' (h1 _)
    | array a b => exact absurd hu' (h2 _ _)
    | _ => rfl
  · cases h

theorem sizeOf_run {P : Program} {w : World} {t : TypeId} {n : Nat} (h : sizeT P t = some n) : (sizeOf t).run P w = .ok n w := by
  unfold sizeT at h
  cases hi : P.info? t with
  | none => simp [hi] at h
  | some i => simp [hi] at h; subst h; simp [sizeOf, typeInfo, hi]

theorem slab_get {l : List Value} {i k o : Nat} {v : Value} (h : (slab l i k)[o]? = some v) : l[i + o]? = some v := by
  have ho := lt_of_get h
  simp [slab] at h ho
  rw [List.getElem?_take] at h
  split at h
  · simpa using h
  · cases h

theorem slab_length {l : List Value} {i k : Nat} (h : i + k ≤ l.length) : (slab l i k).length = k := by
  simp [slab]; omega

/-- A load: of a variable's part, of an element's. -/
theorem load_runs {P : Program} {ρ : Rn} {g : G} {w : World} {n t k : Nat} {lk : LK} {vs : List Value} {bs : List Blk} {c : Value} {r : Res}
    (h1 : lkT P t = some lk) (h2 : sizeT P t = some k) (ha : aLoad lk k vs bs = some r) (hok : r.ok = true) (hv : VL ρ vs [c]) (hr : RelH P ρ g w) (hb : GL g (ptrId vs) bs) :
    Runs P (vS (Instr.loadAt t c)) ρ g w n r := by
  replace h1 := lkT_agg h1
  have key : ∀ {id idx fo : Nat} {b : Blk} {cs : List Value} {dyn ok : Bool}, V ρ (.pointer (some ⟨id, idx, some fo⟩)) c → g id = some b →
      (ok = true → RowIs b idx cs) → readAt lk k dyn cs fo ok = some r → Runs P (vS (Instr.loadAt t c)) ρ g w n r := by
    intro id idx fo b cs dyn ok hp hg hrow hra
    obtain ⟨l, hl, rfl⟩ := v_ptr hp
    obtain ⟨hok', hag, hna⟩ := readAt_some hra hok
    have hrow := hrow hok'
    obtain ⟨l', hl', hh⟩ := hr.holds _ _ hg
    rw [hl] at hl'; cases hl'
    have hS : (Instr.loadAt t (.pointer (some (l.addr.add (idx * l.stride + fo))))).run P w =
        (loadVar t (l.addr.add (idx * l.stride + fo))).run P w := by simp [Instr.loadAt, Instr.sureAddr]
    cases hla : lk.isAgg with
    | true =>
      rw [hla] at h1
      obtain ⟨hle, hrv⟩ := hag hla
      obtain ⟨us, hus, hvl⟩ := run_loadCells_VL (P := P) (ρ := ρ) (w := w) (a := l.addr.add (idx * l.stride + fo)) (k := k) (slab_length hle) (fun o v ho => by
        rw [addr_add_add, Nat.add_assoc]
        exact row_cell hh hrow (slab_get ho))
      refine Runs.pureS hr (v := .agg ⟨slab cs fo k⟩) (c := .agg us) ?_ ⟨_, hrv⟩ (VL.agg hvl)
      rw [hS]
      simp [loadVar, isAgg_run h1, sizeOf_run h2, hus]
    | false =>
      rw [hla] at h1
      obtain ⟨hlt, hrv⟩ := hna hla
      obtain ⟨u, hu, hvu⟩ := row_cell hh hrow (getElem?_of_getD hlt)
      refine Runs.pureS hr ?_ ⟨_, hrv⟩ hvu
      rw [hS]
      simp [loadVar, isAgg_run h1, hu]
  rw [aLoad_eq] at ha
  unfold aLoad0 at ha
  split at ha
  · simp only [ptrId, GL, VL, and_true] at hb hv
    exact key hv hb (fun _ => .inl rfl) ha
  · simp only [ptrId, GL, VL, and_true] at hb hv
    exact key hv hb (fun _ => .inl rfl) ha
  · simp only [ptrId, GL, VL, and_true] at hb hv
    exact key hv hb (fun hk => .inr ⟨_, _, _, _, _, rfl, blt_lt hk, rfl⟩) ha
  · cases ha
end Go.X
