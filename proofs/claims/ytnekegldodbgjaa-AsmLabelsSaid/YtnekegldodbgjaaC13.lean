import Derived.Test.YtnekegldodbgjaaC12
namespace Go.X
open Go

theorem SrcAt.take {ρ : Rn} {size k n : Nat} {f : Nat → List Value} {N : Array Value} (h : SrcAt ρ size k f N) (hn : n ≤ k) : SrcAt ρ size n f (N.extract 0 (n * size)) := by
  have hmul : n * size ≤ k * size := Nat.mul_le_mul_right size hn
  have hmn : min (n * size) (k * size) = n * size := Nat.min_eq_left hmul
  refine ⟨by simp only [Array.size_extract, h.1, hmn, Nat.sub_zero], fun j hj => ⟨(h.2 j (by omega)).1, fun o v ho => ?_⟩⟩
  obtain ⟨u, hu, hv⟩ := (h.2 j (by omega)).2 o v ho
  have hlt := lt_of_get ho
  rw [(h.2 j (by omega)).1] at hlt
  have hm2 : j * size + size ≤ n * size := by
    have := Nat.mul_le_mul_right size (show j + 1 ≤ n by omega)
    rwa [Nat.succ_mul] at this
  refine ⟨u, ?_, hv⟩
  rw [Array.getElem?_extract, if_pos (by simp only [h.1, hmn, Nat.sub_zero]; omega), Nat.zero_add]
  exact hu

/-- A part of a source. -/
theorem src_part {P : Program} {ρ : Rn} {g : G} {w : World} {size k n : Nat} {x X : Value} {bs : List Blk} {f : Nat → List Value} (h : srcRows size x bs = some (k, f, true)) (hs : 0 < size) (hv : V ρ x X) (hr : RelH P ρ g w)
    (hb : GL g (sliceId x) bs) (hn : n ≤ k) : ∃ N, (Builtin.firstCells size n X).run P w = .ok N w ∧ SrcAt ρ size n f N := by
  rw [srcRows_eq] at h
  unfold srcRows0 at h
  split at h
  · simp only [Option.some.injEq, Prod.mk.injEq, and_true] at h
    obtain ⟨rfl, rfl⟩ := h
    obtain ⟨rfl, rfl, rfl⟩ := v_snil hv
    have : n = 0 := by omega
    subst this
    exact ⟨#[], by simp [Builtin.firstCells], src_nil⟩
  · rename_i s
    simp only [Option.some.injEq, Prod.mk.injEq] at h
    obtain ⟨rfl, rfl, h1⟩ := h
    have := Nat.eq_of_beq_eq_true h1; subst this
    have := v_string hv; subst this
    refine ⟨((s.extract 0 n).data.map fun b => .int .u8 b.toNat), rfl, ?_, fun j hj => ⟨rfl, fun o v ho => ?_⟩⟩
    · simp; omega
    · have hlt := lt_of_get ho
      simp at hlt
      subst hlt
      simp at ho
      subst ho
      have hjs : j < s.size := by omega
      refine ⟨.int .u8 (s[j].toNat : Int), ?_, rfl, by rw [byteAt_eq hjs]; exact .int _ _⟩
      rw [Nat.mul_one, Nat.add_zero, Array.getElem?_map, ByteArray.data_extract, Array.getElem?_extract, if_pos (by show j < min n s.size - 0; omega), Nat.zero_add, Array.getElem?_eq_getElem (by exact hjs)]
      rfl
  · rename_i id idx len cap m st f' o ro
    simp only [Option.some.injEq, Prod.mk.injEq, Bool.and_eq_true] at h
    obtain ⟨rfl, rfl, h1, h2⟩ := h
    have h1 := ble_le h1
    have h2 := Nat.eq_of_beq_eq_true h2
    simp only [sliceId, GL, and_true] at hb
    rcases v_slice hv with ⟨l, hl, rfl⟩ | ⟨rfl, rfl, a, rfl⟩
    · obtain ⟨l', hl', hh⟩ := hr.holds _ _ hb
      rw [hl] at hl'; cases hl'
      subst h2
      obtain ⟨N, hN, hS⟩ := run_loadCells_rows (P := P) (w := w) (k := n) hs (rows_cell hh (k := n) (idx := idx) (by omega))
      exact ⟨N, by simpa [Builtin.firstCells] using hN, hS⟩
    · have : n = 0 := by omega
      subst this
      exact ⟨#[], by simp [Builtin.firstCells, loadCells, loadCellsFrom], src_nil⟩
  · rename_i id fo len cap cs
    simp only [Option.some.injEq, Prod.mk.injEq] at h
    obtain ⟨rfl, rfl, h1⟩ := h
    have h1 := ble_le h1
    simp only [sliceId, GL, and_true] at hb
    rcases v_slicea hv with ⟨l, hl, rfl⟩ | ⟨rfl, rfl, a, rfl⟩
    · obtain ⟨l', hl', hh⟩ := hr.holds _ _ hb
      rw [hl] at hl'; cases hl'
      obtain ⟨⟨q1, _⟩, c, e, lo, hi, q2, q3, q4, q5⟩ := hh
      obtain ⟨N, hN, hS⟩ := run_loadCells_rows (P := P) (w := w) (ρ := ρ) (a := l.addr.add (0 * l.stride + fo)) (k := n) (f := fun j => slab cs (fo + j * size) size) hs (fun j hj => by
        have hmul : j * size + size ≤ len * size := by
          have := Nat.mul_le_mul_right size (show j + 1 ≤ len by omega)
          rwa [Nat.succ_mul] at this
        refine ⟨slab_length (by omega), fun i v hi => ?_⟩
        obtain ⟨u, hu, hvu⟩ := q5 _ v (slab_get hi)
        refine ⟨u, ?_, hvu⟩
        rw [addr_add_add, cell_in q2 q1, ← hu]
        congr 1; omega)
      exact ⟨N, by simpa [Builtin.firstCells] using hN, hS⟩
    · have : n = 0 := by omega
      subst this
      exact ⟨#[], by simp [Builtin.firstCells, loadCells, loadCellsFrom], src_nil⟩
  · rename_i id idx fo len cap m st f' o ro
    simp only [Option.some.injEq, Prod.mk.injEq, Bool.and_eq_true] at h
    obtain ⟨rfl, rfl, h1, h2⟩ := h
    have h1 := blt_lt h1
    have h2 := ble_le h2
    simp only [sliceId, GL, and_true] at hb
    rcases v_slicea hv with ⟨l, hl, rfl⟩ | ⟨rfl, rfl, a, rfl⟩
    · obtain ⟨l', hl', hh⟩ := hr.holds _ _ hb
      rw [hl] at hl'; cases hl'
      obtain ⟨q1, q2, q3, q4⟩ := hh
      obtain ⟨e1, e2⟩ := q3 idx h1
      obtain ⟨N, hN, hS⟩ := run_loadCells_rows (P := P) (w := w) (ρ := ρ) (a := l.addr.add (idx * l.stride + fo)) (k := n) (f := fun j => slab (f' idx) (fo + j * size) size) hs (fun j hj => by
        have hmul : j * size + size ≤ len * size := by
          have := Nat.mul_le_mul_right size (show j + 1 ≤ len by omega)
          rwa [Nat.succ_mul] at this
        refine ⟨slab_length (by omega), fun i v hi => ?_⟩
        obtain ⟨u, hu, hvu⟩ := e2 _ v (slab_get hi)
        refine ⟨u, ?_, hvu⟩
        rw [addr_add_add, q1, ← hu]
        congr 2; omega)
      exact ⟨N, by simpa [Builtin.firstCells] using hN, hS⟩
    · have : n = 0 := by omega
      subst this
      exact ⟨#[], by simp [Builtin.firstCells, loadCells, loadCellsFrom], src_nil⟩
  · cases h

theorem cpy_runs {P : Program} {ρ : Rn} {g : G} {w : World} {n t ty e size : Nat} {ts : List TypeId} {vs : List Value} {bs : List Blk} {c d : Value} {r : Res}
    (hu : P.underlying t = some (.slice e)) (h2 : sizeT P e = some size) (hpos : 0 < size)
    (ha : actCpy size vs bs = some r) (hok : r.ok = true) (hv : VL ρ vs [c, d]) (hr : RelH P ρ g w) (hb : GL g (twoIds vs) bs) :
    Runs P (vS (Builtin.copy_ ⟨t :: ts⟩ ty #[c, d])) ρ g w n r := by
  unfold actCpy at ha
  split at ha
  · rename_i x bs'
    obtain ⟨hv1, hv2, _⟩ := hv
    obtain ⟨rfl, _, _⟩ := v_snil hv1
    simp only [twoIds, sliceId, List.nil_append] at hb
    split at ha
    · rename_i src hsrc
      obtain ⟨k, f, ok⟩ := src
      simp only [Option.some.injEq] at ha
      subst ha
      simp only at hok
      subst hok
      obtain ⟨hlen, _⟩ := src_run hsrc hpos hv2 hr hb
      obtain ⟨N, hN, hS⟩ := src_part (n := 0) hsrc hpos hv2 hr hb (by omega)
      refine Runs.pureS (c := .int .i64 0) (v := .int .i64 0) hr ?_ ⟨true, rfl⟩ (.int _ _)
      simp [Builtin.copy_, run_underlying hu, hlen, sizeOf_run h2, hN, goInt]
    · cases ha
  · rename_i id idx len cap x m st f opn bs'
    obtain ⟨hv1, hv2, _⟩ := hv
    simp only [twoIds, sliceId, List.singleton_append, GL] at hb
    obtain ⟨hbg, hb⟩ := hb
    split at ha
    · rename_i src hsrc
      obtain ⟨k, src, ok⟩ := src
      simp only [Option.some.injEq] at ha
      subst ha
      simp only [Bool.and_eq_true] at hok
      obtain ⟨q2, q6, q8⟩ := hok
      have q6 := Nat.eq_of_beq_eq_true q6
      have q8 := ble_le q8
      subst q2
      obtain ⟨l0, hl0, hh⟩ := hr.holds _ _ hbg
      obtain ⟨hlen, _⟩ := src_run hsrc hpos hv2 hr hb
      have hmk : min k len ≤ k := Nat.min_le_left _ _
      have hml : min k len ≤ len := Nat.min_le_right _ _
      obtain ⟨N, hN, hS⟩ := src_part (n := min k len) hsrc hpos hv2 hr hb hmk
      have hSst : SrcAt ρ st (min k len) src N := by rw [q6]; exact hS
      have hpos' : 0 < st := by rw [q6]; exact hpos
      obtain ⟨w', c', e', lo, hi', s1, s2, s3, s4, s5, s6, s7, s8, s9, s10, s11, s12⟩ := store_rows (at_ := idx) hh hpos' hSst (by omega)
      have hst : l0.stride = st := hh.1
      have hGood : Good P ρ g w n [(id, some (.rows m st (rowPut f idx (min k len) src) opn false))] 0 ρ w' := by
        refine Good.turn hr hbg rfl hl0 s2 s3 s4 (by omega) s6 ⟨hst, hh.2.1, fun j hj => ?_, fun _ => ⟨c', e', lo, hi', s7, s10, s8, s9⟩⟩
        have hcell : ∀ o, w'.cell? (l0.addr.add (j * st + o)) = c'[l0.addr.off + (j * st + o)]? := fun o => cell_in s7 s10 _
        unfold rowPut
        by_cases hjl : idx ≤ j ∧ j < idx + min k len
        · have eb : (Nat.ble idx j && Nat.blt j (idx + min k len)) = true := by
            rw [Bool.and_eq_true]
            exact ⟨Nat.ble_eq_true_of_le hjl.1, Nat.ble_eq_true_of_le hjl.2⟩
          rw [eb, cond_true]
          refine ⟨(hSst.2 (j - idx) (by omega)).1, fun o v ho => ?_⟩
          obtain ⟨u, hu', hv'⟩ := s11 (j - idx) (by omega) o v ho
          refine ⟨u, ?_, hv'⟩
          rw [hcell, ← hu', show idx + (j - idx) = j by omega]
        · have eb : (Nat.ble idx j && Nat.blt j (idx + min k len)) = false := by
            cases hb : (Nat.ble idx j && Nat.blt j (idx + min k len)) with
            | false => rfl
            | true =>
              rw [Bool.and_eq_true] at hb
              exact absurd ⟨ble_le hb.1, blt_lt hb.2⟩ hjl
          rw [eb, cond_false]
          refine ⟨(hh.2.2.1 j hj).1, fun o v ho => ?_⟩
          obtain ⟨u, hu', hv'⟩ := s12 j hj (by omega) o v ho
          exact ⟨u, by rw [hcell]; exact hu', hv'⟩
      rcases v_slice hv1 with ⟨l, hl, e1⟩ | ⟨rfl, rfl, a, e1⟩
      · have hll : l = l0 := by rw [hl] at hl0; exact Option.some.inj hl0
        subst hll
        subst e1
        refine ⟨ρ, w', hGood, .inl ⟨.int .i64 (min k len : Nat), run_vS ?_, .int _ _⟩⟩
        rw [hst] 
        have hm : Nat.min k len = min k len := rfl
        simp [Builtin.copy_, run_underlying hu, hlen, hm, sizeOf_run h2, hN, s1, goInt]
      · subst e1
        have hm0 : min k 0 = 0 := Nat.min_zero k
        have hN0 : N.toList = [] := by
          have := hS.1
          rw [hm0] at this
          simp at this; simp [this]
        rw [hN0] at s1
        have hw : w' = w := by
          simp [storeCells] at s1; exact s1.symm
        subst hw
        refine ⟨ρ, w', hGood, .inl ⟨.int .i64 (min k 0 : Nat), run_vS ?_, .int _ _⟩⟩
        have hm : Nat.min k 0 = 0 := hm0
        rw [hm0] at hN
        have hNe : N = #[] := by
          cases N; simpa using hN0
        subst hNe
        simp [Builtin.copy_, run_underlying hu, hlen, hm, sizeOf_run h2, hN, storeCells, goInt]
    · cases ha
  · cases ha
end Go.X
