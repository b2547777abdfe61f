import Derived.Test.YtnekegldodbgjaaC09
namespace Go.X
open Go

theorem Fr.mono {O O' : Nat → Prop} {w w' : World} (h : Fr O w w') (ho : ∀ k, O k → O' k) : Fr O' w w' :=
  ⟨h.os, h.tape, h.output, h.size, fun k hk hn => h.block k hk fun hx => hn (ho k hx)⟩

theorem mks_runs {P : Program} {ρ : Rn} {g : G} {w : World} {n t e bytes : Nat} {zero : List Value} {i : TypeInfo} {vs : List Value} {c d : Value} {r : Res}
    (hu : P.underlying t = some (.slice e)) (hz : zeroCells P e = some zero) (hi : P.info? e = some i) (hby : i.bytes = bytes) (hpos : 0 < zero.length) (ha : aMks zero bytes n vs = some r) (hok : r.ok = true)
    (hv : VL ρ vs [c, d]) (hr : RelH P ρ g w) (hn : ρ n = none) : Runs P (vS (Instr.makeSlice t c d)) ρ g w n r := by
  obtain ⟨i', Z, h1, h2, h3, h4, h5⟩ := zeroCells_some hz
  rw [hi] at h1; cases h1
  unfold aMks at ha
  split at ha
  · rename_i k l k' cc
    simp only [Option.some.injEq] at ha; subst ha
    simp only [Bool.and_eq_true, decide_eq_true_eq, maxGrow] at hok
    obtain ⟨⟨q1, q2⟩, q3⟩ := hok
    obtain ⟨hv1, hv2, _⟩ := hv
    have := v_int hv1; subst this
    have := v_int hv2; subst this
    subst hby
    have hc0 : 0 ≤ cc := by omega
    obtain ⟨m, rfl⟩ := Int.eq_ofNat_of_zero_le hc0
    have hm : m * (i.bytes + zero.length + 1) ≤ 1099511627776 := by
      have := of_decide_eq_true q3
      exact_mod_cast this
    have hm1 : m * i.bytes ≤ m * (i.bytes + zero.length + 1) := Nat.mul_le_mul_left m (by omega)
    have hm2 : m * 1 ≤ m * (i.bytes + zero.length + 1) := Nat.mul_le_mul_left m (by omega)
    have hmb : (i.bytes : Int) * (m : Int) ≤ 281474976710656 := by
      have : i.bytes * m ≤ 281474976710656 := by rw [Nat.mul_comm]; omega
      rw [← Int.natCast_mul]; exact Int.ofNat_le.2 this
    have hrun := run_make (P := P) w t e i Z hu hi h2 k k' l (m : Int) q1 q2 hmb (by omega)
    have hZs : Z.cells.size = zero.length := by rw [← h3]; simp
    have hsz : ((madeCells Z.cells ((m : Int).toNat * i.size)).size) = m * zero.length := by rw [size_madeCells, h5]; rfl
    refine ⟨_, _, Good.rows (w' := w.alloc (.cells (madeCells Z.cells ((m : Int).toNat * i.size)) e)) (t := e) (lo := 0) (hi := 0) (ex := 0) hr hn rfl rfl rfl (World.size_alloc _ _) (fun k hk => heap_push_old w _ k hk)
      (heap_alloc_new _ _) (fun i _ => by omega) (fun _ => rfl) (by rw [hsz, Nat.add_zero]; exact Nat.le_refl _) (fun j hj => ⟨rfl, fun o v ho => ?_⟩), .inl ⟨_, run_vS hrun, v_newrows (ex := 0)⟩⟩
    have hlt := lt_of_get ho
    have hj : j < m := by simpa using hj
    have hmul : j * zero.length + zero.length ≤ m * zero.length := by
      have := Nat.mul_le_mul_right zero.length (show j + 1 ≤ m by omega)
      rwa [Nat.succ_mul] at this
    have hmod : (j * zero.length + o) % Z.cells.size = o := by
      rw [hZs, Nat.mul_comm, Nat.mul_add_mod, Nat.mod_eq_of_lt hlt]
    have hoz : Z.cells[o]? = some v := by rw [← Array.getElem?_toList, h3]; exact ho
    have hos : o < Z.cells.size := by omega
    refine ⟨v, ?_, okc1_one (List.all_eq_true.1 h4 v (List.mem_of_getElem? ho)), okc1_self (List.all_eq_true.1 h4 v (List.mem_of_getElem? ho))⟩
    unfold madeCells
    have hb : j * zero.length + o < m * i.size := by rw [← h5]; omega
    have hx : (Array.range ((m : Int).toNat * i.size))[j * zero.length + o]? = some (j * zero.length + o) := by
      simp [hb]
    rw [Array.getElem?_map, hx, Option.map_some, hmod, getElem!_pos Z.cells o hos]
    rw [Array.getElem?_eq_getElem hos] at hoz
    exact hoz
  · cases ha

theorem grownCap_ge' (w : World) (need old : Nat) (e : TypeId) : need ≤ grownCap w need old e := grownCap_ge w need old e

theorem s2b_runs {P : Program} {ρ : Rn} {g : G} {w : World} {n s d e : Nat} {vs : List Value} {c : Value} {r : Res} (h1 : P.underlying s = some .string) (h2 : P.underlying d = some (.slice e)) (h3 : P.underlying e = some (.int .u8))
    (ha : aS2b n vs = some r) (hv : VL ρ vs [c]) (hr : RelH P ρ g w) (hn : ρ n = none) : Runs P (vS (convert s d c)) ρ g w n r := by
  unfold aS2b at ha
  split at ha
  · rename_i str
    simp only [Option.some.injEq] at ha; subst ha
    have := v_string hv.1; subst this
    have hrun := run_bytes_of_string (P := P) w s d e str h1 h2 h3
    have hge := grownCap_ge w str.size 0 e
    have hsize : (bytesRow str (grownCap w str.size 0 e)).size = grownCap w str.size 0 e := by
      simp [bytesRow]; omega
    refine ⟨_, _, Good.rows (w' := w.drew.alloc (.cells (bytesRow str (grownCap w str.size 0 e)) e ((bytesRow str (grownCap w str.size 0 e)).size, (bytesRow str (grownCap w str.size 0 e)).size + 1)))
      (ex := grownCap w str.size 0 e - str.size) hr hn rfl rfl rfl (by simp) (fun k hk => heap_push_old w.drew _ k hk) (heap_alloc_new w.drew _) (fun i hi => by rw [hsize]; omega) (fun h => by cases h) (by rw [hsize]; omega)
      (fun j hj => ⟨rfl, fun o v ho => ?_⟩), .inl ⟨_, run_vS hrun, ?_⟩⟩
    · have hlt := lt_of_get ho
      simp at hlt
      subst hlt
      simp at ho
      subst ho
      have hj' : j < str.data.size := hj
      refine ⟨_, by rw [Nat.mul_one, Nat.add_zero]; exact bytesRow_at str _ j hj', rfl, ?_⟩
      rw [byteAt_eq hj]
      exact .int _ _
    · have := v_newrows (ρ := ρ) (n := n) (a := w.heap.size) (st := 1) (ex := grownCap w str.size 0 e - str.size) (len := str.size) (cap := str.size)
      rwa [show str.size + (grownCap w str.size 0 e - str.size) = grownCap w str.size 0 e by omega] at this
  · cases ha

/-- What a slice, or a string, that is appended or copied has for cells. -/
def SrcAt (ρ : Rn) (size k : Nat) (f : Nat → List Value) (N : Array Value) : Prop :=
  N.size = k * size ∧ ∀ j, j < k → (f j).length = size ∧ ∀ o v, (f j)[o]? = some v → ∃ u, N[j * size + o]? = some u ∧ CV ρ v u

theorem run_loadCells_rows {P : Program} {ρ : Rn} {w : World} {a : Addr} {size k : Nat} {f : Nat → List Value} (hs : 0 < size)
    (h : ∀ j, j < k → (f j).length = size ∧ ∀ o v, (f j)[o]? = some v → ∃ u, w.cell? (a.add (j * size + o)) = some u ∧ CV ρ v u) :
    ∃ N, (loadCells a (k * size)).run P w = .ok N w ∧ SrcAt ρ size k f N := by
  have hcell : ∀ i, i < k * size → (w.cell? (a.add i)).isSome = true := by
    intro i hi
    have hj : i / size < k := by
      rw [Nat.div_lt_iff_lt_mul hs]; exact hi
    have hm : i % size < size := Nat.mod_lt _ hs
    obtain ⟨hl, hh⟩ := h (i / size) hj
    obtain ⟨u, hu, _⟩ := hh (i % size) ((f (i / size))[i % size]'(by omega)) (by simp)
    have : i / size * size + i % size = i := by rw [Nat.mul_comm]; exact Nat.div_add_mod i size
    rw [this] at hu
    simp [hu]
  have hrun := run_loadCells (P := P) (w := w) a (k * size) (fun j => (w.cell? (a.add j)).getD undef) (fun j hj => by
    have := hcell j hj
    cases hx : w.cell? (a.add j) with
    | none => simp [hx] at this
    | some u => rfl)
  refine ⟨_, hrun, by simp, fun j hj => ⟨(h j hj).1, fun o v ho => ?_⟩⟩
  obtain ⟨u, hu, hvu⟩ := (h j hj).2 o v ho
  have hlt := lt_of_get ho
  rw [(h j hj).1] at hlt
  have hmul : j * size + size ≤ k * size := by
    have := Nat.mul_le_mul_right size (show j + 1 ≤ k by omega)
    rwa [Nat.succ_mul] at this
  refine ⟨u, ?_, hvu⟩
  have hlt2 : j * size + o < k * size := by omega
  simp [hlt2, hu]

theorem rows_cell {P : Program} {ρ : Rn} {w : World} {l : L} {m st : Nat} {f : Nat → List Value} {o ro : Bool} (hh : Holds P ρ w l (.rows m st f o ro)) {idx k : Nat} (h : idx + k ≤ m) :
    ∀ j, j < k → (f (idx + j)).length = st ∧ ∀ i v, (f (idx + j))[i]? = some v → ∃ u, w.cell? ((l.addr.add (idx * l.stride)).add (j * st + i)) = some u ∧ CV ρ v u := by
  intro j hj
  obtain ⟨h1, h2, h3, h4⟩ := hh
  obtain ⟨e1, e2⟩ := h3 (idx + j) (by omega)
  refine ⟨e1, fun i v hv => ?_⟩
  obtain ⟨u, hu, hvu⟩ := e2 i v hv
  refine ⟨u, ?_, hvu⟩
  rw [addr_add_add, h1, ← Nat.add_assoc, ← Nat.add_mul]
  exact hu

theorem src_run {P : Program} {ρ : Rn} {g : G} {w : World} {size k : Nat} {x X : Value} {bs : List Blk} {f : Nat → List Value} (h : srcRows size x bs = some (k, f, true)) (hs : 0 < size) (hv : V ρ x X) (hr : RelH P ρ g w)
    (hb : GL g (sliceId x) bs) : (Builtin.lenOf X).run P w = .ok k w ∧ ∃ N, (Builtin.firstCells size k X).run P w = .ok N w ∧ SrcAt ρ size k f N := by
  rw [srcRows_eq] at h
  unfold srcRows0 at h
  split at h
  · simp only [Option.some.injEq, Prod.mk.injEq, and_true] at h
    obtain ⟨rfl, rfl⟩ := h
    obtain ⟨rfl, rfl, rfl⟩ := v_snil hv
    exact ⟨by simp [Builtin.lenOf], #[], by simp [Builtin.firstCells], by simp [SrcAt]⟩
  · rename_i s
    simp only [Option.some.injEq, Prod.mk.injEq] at h
    obtain ⟨rfl, rfl, h1⟩ := h
    have := Nat.eq_of_beq_eq_true h1; subst this
    have := v_string hv; subst this
    refine ⟨by simp [Builtin.lenOf], ((s.extract 0 s.size).data.map fun b => .int .u8 b.toNat), rfl, ?_, fun j hj => ⟨rfl, fun o v ho => ?_⟩⟩
    · simp
    · have hlt := lt_of_get ho
      simp at hlt
      subst hlt
      simp at ho
      subst ho
      refine ⟨.int .u8 (s[j].toNat : Int), ?_, rfl, by rw [byteAt_eq hj]; exact .int _ _⟩
      have hj' : j < s.data.size := hj
      rw [Nat.mul_one, Nat.add_zero]
      have e0 : s.extract 0 s.size = s := by simp
      rw [e0, Array.getElem?_map, Array.getElem?_eq_getElem hj']
      rfl
  · rename_i id idx len cap m st f' o ro
    simp only [Option.some.injEq, Prod.mk.injEq, Bool.and_eq_true] at h
    obtain ⟨rfl, rfl, h1, h2⟩ := h
    have h1 := ble_le h1
    have h2 := Nat.eq_of_beq_eq_true h2
    simp only [sliceId, GL, and_true] at hb
    rcases v_slice hv with ⟨l, hl, rfl⟩ | ⟨rfl, rfl, a, rfl⟩
    · obtain ⟨l', hl', hh⟩ := hr.holds _ _ hb
      rw [hl] at hl'; cases hl'
      subst h2
      obtain ⟨N, hN, hS⟩ := run_loadCells_rows (P := P) (w := w) (k := len) hs (rows_cell hh h1)
      exact ⟨by simp [Builtin.lenOf], N, by simpa [Builtin.firstCells] using hN, hS⟩
    · exact ⟨by simp [Builtin.lenOf], #[], by simp [Builtin.firstCells, loadCells, loadCellsFrom], by simp [SrcAt]⟩
  · rename_i id fo len cap cs
    simp only [Option.some.injEq, Prod.mk.injEq] at h
    obtain ⟨rfl, rfl, h1⟩ := h
    have h1 := ble_le h1
    simp only [sliceId, GL, and_true] at hb
    rcases v_slicea hv with ⟨l, hl, rfl⟩ | ⟨rfl, rfl, a, rfl⟩
    · obtain ⟨l', hl', hh⟩ := hr.holds _ _ hb
      rw [hl] at hl'; cases hl'
      obtain ⟨⟨q1, _⟩, c, e, lo, hi, q2, q3, q4, q5⟩ := hh
      obtain ⟨N, hN, hS⟩ := run_loadCells_rows (P := P) (w := w) (ρ := ρ) (a := l.addr.add (0 * l.stride + fo)) (k := len) (f := fun j => slab cs (fo + j * size) size) hs (fun j hj => by
        have hmul : j * size + size ≤ len * size := by
          have := Nat.mul_le_mul_right size (show j + 1 ≤ len by omega)
          rwa [Nat.succ_mul] at this
        refine ⟨slab_length (by omega), fun i v hi => ?_⟩
        obtain ⟨u, hu, hvu⟩ := q5 _ v (slab_get hi)
        refine ⟨u, ?_, hvu⟩
        rw [addr_add_add, cell_in q2 q1, ← hu]
        congr 1; omega)
      exact ⟨by simp [Builtin.lenOf], N, by simpa [Builtin.firstCells] using hN, hS⟩
    · exact ⟨by simp [Builtin.lenOf], #[], by simp [Builtin.firstCells, loadCells, loadCellsFrom], by simp [SrcAt]⟩
  · rename_i id idx fo len cap m st f' o ro
    simp only [Option.some.injEq, Prod.mk.injEq, Bool.and_eq_true] at h
    obtain ⟨rfl, rfl, h1, h2⟩ := h
    have h1 := blt_lt h1
    have h2 := ble_le h2
    simp only [sliceId, GL, and_true] at hb
    rcases v_slicea hv with ⟨l, hl, rfl⟩ | ⟨rfl, rfl, a, rfl⟩
    · obtain ⟨l', hl', hh⟩ := hr.holds _ _ hb
      rw [hl] at hl'; cases hl'
      obtain ⟨q1, q2, q3, q4⟩ := hh
      obtain ⟨e1, e2⟩ := q3 idx h1
      obtain ⟨N, hN, hS⟩ := run_loadCells_rows (P := P) (w := w) (ρ := ρ) (a := l.addr.add (idx * l.stride + fo)) (k := len) (f := fun j => slab (f' idx) (fo + j * size) size) hs (fun j hj => by
        have hmul : j * size + size ≤ len * size := by
          have := Nat.mul_le_mul_right size (show j + 1 ≤ len by omega)
          rwa [Nat.succ_mul] at this
        refine ⟨slab_length (by omega), fun i v hi => ?_⟩
        obtain ⟨u, hu, hvu⟩ := e2 _ v (slab_get hi)
        refine ⟨u, ?_, hvu⟩
        rw [addr_add_add, q1, ← hu]
        congr 2; omega)
      exact ⟨by simp [Builtin.lenOf], N, by simpa [Builtin.firstCells] using hN, hS⟩
    · exact ⟨by simp [Builtin.lenOf], #[], by simp [Builtin.firstCells, loadCells, loadCellsFrom], by simp [SrcAt]⟩
  · cases h

theorem minmax_runs {P : Program} {ρ : Rn} {g : G} {w : World} {n : Nat} {ts : Array TypeId} {ty : TypeId} {isMax : Bool} {vs : List Value} {cs : Array Value} {r : Res} (ha : aMinmax isMax vs = some r) (hv : VL ρ vs cs.toList) (hr : RelH P ρ g w) :
    Runs P (vS (if isMax then Builtin.max_ ts ty cs else Builtin.min_ ts ty cs)) ρ g w n r := by
  unfold aMinmax at ha
  split at ha
  · rename_i k x vs'
    split at ha
    · rename_i v hfold
      have gen : ∀ (vs' : List Value) (cs' : List Value) (x : Int) (v : Value), VL ρ vs' cs' → foldMM isMax k x vs' = some v →
          (cs'.foldlM (if isMax then Builtin.max2 else Builtin.min2) (.int k x) : Sem Value).run P w = .ok v w ∧ V ρ v v := by
        intro vs'
        induction vs' with
        | nil =>
          intro cs' x v hv hf
          cases cs' with
          | nil => simp [foldMM] at hf; subst hf; simp; exact .int _ _
          | cons => exact hv.elim
        | cons a vs' ih =>
          intro cs' x v hv hf
          cases cs' with
          | nil => exact hv.elim
          | cons c cs' =>
            cases a <;> simp only [foldMM, reduceCtorEq] at hf
            rename_i k' y
            have := v_int hv.1; subst this
            obtain ⟨h1, h2⟩ := ih cs' _ v hv.2 hf
            refine ⟨?_, h2⟩
            simp only [List.foldlM_cons, Sem.run_bind]
            cases isMax
            · simp [Builtin.min2] at h1 ⊢; exact h1
            · simp [Builtin.max2] at h1 ⊢; exact h1
      obtain ⟨csl⟩ := cs
      cases csl with
      | nil => exact hv.elim
      | cons c cs' =>
        have := v_int hv.1; subst this
        obtain ⟨h1, h2⟩ := gen vs' cs' x v hv.2 hfold
        refine Runs.pureS hr ?_ ⟨_, ha⟩ h2
        cases isMax
        · simpa [Builtin.min_] using h1
        · simpa [Builtin.max_] using h1
    · cases ha
  · cases ha
end Go.X
