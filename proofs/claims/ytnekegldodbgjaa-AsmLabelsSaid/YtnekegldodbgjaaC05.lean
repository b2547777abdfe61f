import Derived.Test.YtnekegldodbgjaaC04
namespace Go.X
open Go

theorem putAt_length : ∀ (l : List Value) (k : Nat) (vs : List Value), k + vs.length ≤ l.length → (putAt l k vs).length = l.length
  | l, 0, vs, h => by simp [putAt]; omega
  | x :: l, k + 1, vs, h => by simp [putAt, putAt_length l k vs (by simp at h; omega)]
  | [], k + 1, vs, h => by simp at h

theorem putAt_get : ∀ (l : List Value) (k : Nat) (vs : List Value) (i : Nat), k + vs.length ≤ l.length →
    (putAt l k vs)[i]? = if k ≤ i ∧ i < k + vs.length then vs[i - k]? else l[i]?
  | l, 0, vs, i, h => by
    simp only [putAt, Nat.zero_le, true_and, Nat.zero_add, Nat.sub_zero]
    by_cases hi : i < vs.length
    · rw [if_pos hi, List.getElem?_append_left hi]
    · rw [if_neg hi, List.getElem?_append_right (by omega), List.getElem?_drop]
      congr 1; omega
  | x :: l, k + 1, vs, 0, h => by simp [putAt]
  | x :: l, k + 1, vs, i + 1, h => by
    simp only [putAt, List.getElem?_cons_succ]
    rw [putAt_get l k vs i (by simp at h; omega)]
    by_cases hc : k ≤ i ∧ i < k + vs.length
    · rw [if_pos hc, if_pos (by omega)]; congr 1; omega
    · rw [if_neg hc, if_neg (by omega)]
  | [], k + 1, vs, i, h => by simp at h

theorem VL.putAt {ρ : Rn} : ∀ {l cs : List Value} {k : Nat} {vs ds : List Value}, VL ρ l cs → VL ρ vs ds → k + vs.length ≤ l.length → VL ρ (putAt l k vs) (putAt cs k ds)
  | l, cs, k, vs, ds, h, h', hk => by
    have e1 := h.length
    have e2 := h'.length
    refine VL.of_get (by rw [putAt_length _ _ _ hk, putAt_length _ _ _ (by omega)]; exact e1) fun i v c hv hc => ?_
    rw [putAt_get _ _ _ _ hk] at hv
    rw [putAt_get _ _ _ _ (by omega)] at hc
    by_cases hi : k ≤ i ∧ i < k + vs.length
    · rw [if_pos hi] at hv
      rw [if_pos (by omega)] at hc
      exact h'.get hv hc
    · rw [if_neg hi] at hv
      rw [if_neg (by omega)] at hc
      exact h.get hv hc

/-- Storing cells, one behind the other. -/
def storeList (w : World) (a : Addr) : List Value → Nat → World
  | [], _ => w
  | v :: vs, i => storeList (w.setCell (a.add i) v) a vs (i + 1)

theorem run_storeCells {P : Program} {a : Addr} : ∀ (vs : List Value) (i : Nat) (w : World), (∀ v ∈ vs, v.oneCell' = true) →
    (∀ j, i ≤ j → j < i + vs.length → (w.cell? (a.add j)).isSome = true ∧ w.frozen? (a.add j) = false) →
    (storeCells a vs i).run P w = .ok () (storeList w a vs i)
  | [], i, w, _, _ => by simp [storeCells, storeList]
  | v :: vs, i, w, h1, h2 => by
    obtain ⟨hc, hf⟩ := h2 i (Nat.le_refl _) (by simp)
    obtain ⟨u, hu⟩ := Option.isSome_iff_exists.1 hc
    have hst := run_store P w (a.add i) v .plain (h1 v (by simp))
    simp only [storeCells, Sem.run_bind]
    have e : (store (a.add i) v).run P w = .ok () (w.setCell (a.add i) v) := by
      rw [hst]; simp [hu, hf]
    rw [e]
    simp only [Result.andThen_ok, storeList]
    refine run_storeCells vs (i + 1) _ (fun x hx => h1 x (by simp [hx])) fun j hj hj' => ?_
    obtain ⟨hc2, hf2⟩ := h2 j (by omega) (by simp; omega)
    refine ⟨?_, by simp [hf2]⟩
    by_cases e : a.add i = a.add j
    · rw [← e, World.cell?_setCell_same _ _ _ hu]; rfl
    · rw [World.cell?_setCell_other _ _ _ _ e]; exact hc2

theorem storeList_heap {a : Addr} {e : TypeId} {z : Nat × Nat} (hs : a.spot = none) : ∀ (vs : List Value) (i : Nat) (w : World) (c : Array Value), w.heap[a.block]? = some (.cells c e z) →
    a.off + i + vs.length ≤ c.size →
    (storeList w a vs i).heap[a.block]? = some (.cells ⟨putAt c.toList (a.off + i) vs⟩ e z) ∧
    (∀ k, k ≠ a.block → (storeList w a vs i).heap[k]? = w.heap[k]?) ∧ (storeList w a vs i).heap.size = w.heap.size ∧
    (storeList w a vs i).os = w.os ∧ (storeList w a vs i).tape = w.tape ∧ (storeList w a vs i).output = w.output
  | [], i, w, c, h, hl => by
    refine ⟨?_, fun _ _ => rfl, rfl, rfl, rfl, rfl⟩
    have : putAt c.toList (a.off + i) [] = c.toList := by
      apply List.ext_getElem?
      intro j
      rw [putAt_get _ _ _ _ (by simpa using hl)]
      rw [if_neg (by simp)]
    rw [this]
    exact h
  | v :: vs, i, w, c, h, hl => by
    have hadd : a.add i = ⟨a.block, a.off + i, none⟩ := by
      simp only [Addr.add]
      split
      · rename_i hi; subst hi; cases a; simp at hs; subst hs; rfl
      · rfl
    have hlt : a.off + i < c.size := by simp at hl; omega
    have hset : (w.setCell (a.add i) v).heap[a.block]? = some (.cells (c.setIfInBounds (a.off + i) v) e z) := by
      rw [hadd]
      simp [World.setCell, Array.getElem?_modify, h]
    obtain ⟨g1, g2, g3, g4, g5, g6⟩ := storeList_heap hs vs (i + 1) (w.setCell (a.add i) v) (c.setIfInBounds (a.off + i) v) hset (by simp at hl ⊢; omega)
    refine ⟨?_, fun k hk => ?_, ?_, g4, g5, g6⟩
    · rw [storeList, g1]
      congr 3
      apply List.ext_getElem?
      intro j
      rw [putAt_get _ _ _ _ (by simp at hl ⊢; omega), putAt_get _ _ _ _ (by simp at hl ⊢; omega)]
      simp only [Array.toList_setIfInBounds, List.length_cons]
      by_cases h1 : a.off + (i + 1) ≤ j ∧ j < a.off + (i + 1) + vs.length
      · rw [if_pos h1, if_pos (by omega)]
        have : j - (a.off + i) = (j - (a.off + (i + 1))) + 1 := by omega
        rw [this, List.getElem?_cons_succ]
      · rw [if_neg h1]
        by_cases h2 : j = a.off + i
        · subst h2
          rw [if_pos (by omega)]
          simp [hlt]
        · rw [if_neg (by omega), List.getElem?_set_ne (by omega)]
    · rw [storeList, g2 k hk]
      rw [hadd]
      simp only [World.setCell, Array.getElem?_modify]
      rw [if_neg (by simpa using Ne.symm hk)]
    · rw [storeList, g3]; simp

theorem addr_add_spot {a : Addr} (n : Nat) (h : a.spot = none) : (a.add n).spot = none := by
  simp only [Addr.add]; split
  · exact h
  · rfl
theorem addr_add_off (a : Addr) (n : Nat) : (a.add n).off = a.off + n := by
  simp only [Addr.add]; split
  · omega
  · rfl

theorem cell_in {w : World} {a : Addr} {c : Array Value} {e : TypeId} {z : Nat × Nat} (hb : w.heap[a.block]? = some (.cells c e z)) (hs : a.spot = none) (k : Nat) :
    w.cell? (a.add k) = c[a.off + k]? := by
  simp only [World.cell?, addr_add_block, hb, addr_add_spot k hs, addr_add_off]
  simp
theorem frozen_in {w : World} {a : Addr} {c : Array Value} {e : TypeId} {lo hi : Nat} (hb : w.heap[a.block]? = some (.cells c e (lo, hi))) (k : Nat) (h : ¬ (lo ≤ a.off + k ∧ a.off + k < hi)) :
    w.frozen? (a.add k) = false := by
  simp only [World.frozen?, addr_add_block, hb, addr_add_off]
  simp; omega

/-- A block of ours turns, by whatever way: what is owed. -/
theorem Good.turn {P : Program} {ρ : Rn} {g : G} {w w' : World} {n news id : Nat} {l : L} {b b' : Blk} (h : RelH P ρ g w) (hg : g id = some b) (hro : b.ro = false)
    (hl : ρ id = some l) (hos : w'.os = w.os) (htape : w'.tape = w.tape) (hout : w'.output = w.output) (hsz : w.heap.size ≤ w'.heap.size)
    (hold : ∀ k, k ≠ l.addr.block → w'.heap[k]? = w.heap[k]?) (hb : Holds P ρ w' l b') :
    Good P ρ g w n [(id, some b')] news ρ w' := by
  refine ⟨Le.refl _, fun _ h h' => absurd h h', h.turn hg hro hl hold hb, ⟨hos, htape, hout, hsz, fun k _ hk => hold k ?_⟩, ?_⟩
  · rintro rfl
    exact hk ⟨id, b, l, hg, hro, hl, rfl⟩
  · rintro k ⟨id', c, m, hg', hro', hm, rfl⟩
    refine .inl ?_
    by_cases e : id' = id
    · subst e
      rw [hl] at hm; cases hm
      exact ⟨id', b, l, hg, hro, hl, rfl⟩
    · simp only [gapply] at hg'
      rw [gset_ne _ _ e] at hg'
      exact ⟨id', c, m, hg', hro', hm, rfl⟩

theorem all_one_conc {ρ : Rn} : ∀ {vs cs : List Value}, VL ρ vs cs → vs.all isOne = true → ∀ c ∈ cs, c.oneCell' = true
  | [], [], _, _, c, hc => by simp at hc
  | v :: vs, d :: cs, h, h1, c, hc => by
    simp only [List.all_cons, Bool.and_eq_true] at h1
    rcases List.mem_cons.1 hc with rfl | hc
    · exact isOne_conc h.1 h1.1
    · exact all_one_conc h.2 h1.2 c hc

theorem run_storeAt {P : Program} {w : World} {t k : Nat} {a : Addr} {v : Value} (h2 : sizeT P t = some k) (hk : v.cells.size = k)
    {r : Result Unit} (h : (storeCells a v.cells.toList).run P w = r) : (Instr.storeAt t (.pointer (some a)) v).run P w = r := by
  simp [Instr.storeAt, Instr.sureAddr, storeVar, sizeOf_run h2, hk, h]

theorem putAt_holds {ρ : Rn} {c : List Value} {off : Nat} {cs us vs : List Value} {fo : Nat} (hv : VL ρ vs us) (h1 : vs.all isOne = true) (hk : fo + vs.length ≤ cs.length) (hc : off + cs.length ≤ c.length)
    (h : ∀ o v, cs[o]? = some v → ∃ u, c[off + o]? = some u ∧ CV ρ v u) :
    ∀ o v, (putAt cs fo vs)[o]? = some v → ∃ u, (putAt c (off + fo) us)[off + o]? = some u ∧ CV ρ v u := by
  intro o v ho
  have e := hv.length
  have hlt : o < cs.length := by have := lt_of_get ho; rwa [putAt_length _ _ _ hk] at this
  rw [putAt_get _ _ _ _ hk] at ho
  rw [putAt_get _ _ _ _ (by omega)]
  by_cases hi : fo ≤ o ∧ o < fo + vs.length
  · rw [if_pos hi] at ho
    rw [if_pos (by omega)]
    have hx : o - fo < us.length := by omega
    refine ⟨us[o - fo], by rw [show off + o - (off + fo) = o - fo by omega]; simp [hx], List.all_eq_true.1 h1 v (List.mem_of_getElem? ho), hv.get ho (by simp [hx])⟩
  · rw [if_neg hi] at ho
    rw [if_neg (by omega)]
    exact h o v ho

theorem mixC_eq {c : Bool} {v x : Value} (h : mixOK c v x = true) : mixC c v x = cond c v x := by
  unfold mixOK at h
  unfold mixC
  split
  · rename_i k n k' m
    simp only at h
    by_cases e : k = k'
    · subst e; simp; cases c <;> rfl
    · simp [e] at h ⊢; subst h; rfl
  · cases c <;> rfl
  · cases c <;> rfl
  · rename_i h1 h2 h3
    split at h
    · exact absurd rfl (h1 _ _ _ _ rfl)
    · exact absurd rfl (h2 _ _ rfl)
    · exact absurd rfl (h3 _ _ rfl)
    · simp at h; subst h; rfl
theorem updC_eq {fo : Nat} {v : Value} : ∀ (l : List Value) (i : Nat), updOK fo v i l = true → (i ≤ fo → fo < i + l.length → updC fo v i l = putAt l (fo - i) [v]) ∧ (fo < i → updC fo v i l = l)
  | [], i, _ => ⟨fun h h' => by simp at h'; omega, fun _ => rfl⟩
  | x :: l, i, h => by
    simp only [updOK, Bool.and_eq_true] at h
    obtain ⟨h1, h2⟩ := updC_eq l (i + 1) h.2
    simp only [updC, mixC_eq h.1]
    refine ⟨fun hi hl => ?_, fun hi => ?_⟩
    · by_cases e : i = fo
      · subst e
        rw [h2 (by omega)]
        simp [putAt]
      · have : Nat.beq i fo = false := by
          cases hb : Nat.beq i fo with
          | false => rfl
          | true => exact absurd (Nat.eq_of_beq_eq_true hb) e
        rw [this, cond_false, h1 (by omega) (by simp at hl; omega), show fo - i = (fo - (i + 1)) + 1 by omega]
        rfl
    · have : Nat.beq i fo = false := by
        cases hb : Nat.beq i fo with
        | false => rfl
        | true => have := Nat.eq_of_beq_eq_true hb; omega
      rw [this, cond_false, h2 (by omega)]
theorem isOne_cells {v : Value} (h : isOne v = true) : vcells v = [v] := by cases v <;> first | rfl | cases h
theorem putDyn_some {k id fo : Nat} {v : Value} {cs : List Value} {r : Res} (h : putDyn k id fo v cs = some r) (hok : r.ok = true) :
    (vcells v).length = k ∧ fo + k ≤ cs.length ∧ (vcells v).all isOne = true ∧ r = ⟨undefd, [(id, some (.var (putAt cs fo (vcells v))))], 0, r.ok⟩ := by
  unfold putDyn at h
  obtain ⟨h1, h2⟩ := must_some h
  rw [fz_eq, fzL_eq] at h2
  simp only [Option.some.injEq] at h2
  subst h2
  simp only [Bool.and_eq_true] at hok
  obtain ⟨a1, a2, a3⟩ := hok
  have hk := Nat.eq_of_beq_eq_true h1
  have hl := blt_lt a2
  have := (updC_eq cs 0 a3).1 (Nat.zero_le _) (by omega)
  rw [isOne_cells a1]
  refine ⟨by simp [hk], by omega, by simp [a1], ?_⟩
  simp [this]

theorem store_runs {P : Program} {ρ : Rn} {g : G} {w : World} {n t k : Nat} {vs : List Value} {bs : List Blk} {c d : Value} {r : Res}
    (h2 : sizeT P t = some k) (ha : aStore k vs bs = some r) (hok : r.ok = true) (hv : VL ρ vs [c, d]) (hr : RelH P ρ g w) (hb : GL g (ptrId vs) bs) :
    Runs P (uS (Instr.storeAt t c d)) ρ g w n r := by
  have var : ∀ {id idx fo : Nat} {v : Value} {cs : List Value}, GL g [id] [Blk.var cs] → VL ρ [.pointer (some ⟨id, idx, some fo⟩), v] [c, d] →
      ((vcells v).length = k ∧ fo + k ≤ cs.length ∧ (vcells v).all isOne = true ∧ r = ⟨undefd, [(id, some (.var (putAt cs fo (vcells v))))], 0, r.ok⟩) → Runs P (uS (Instr.storeAt t c d)) ρ g w n r := by
    intro id idx fo v cs hb1 hv1 key
    simp only [GL, VL, and_true] at hb1 hv1
    obtain ⟨hp, hv2⟩ := hv1
    obtain ⟨l, hl, rfl⟩ := v_ptr hp
    have hc := v_cells hv2
    obtain ⟨k1, k2, k3, k4⟩ := key
    obtain ⟨l', hl', hh⟩ := hr.holds _ _ hb1
    rw [hl] at hl'; cases hl'
    obtain ⟨⟨q1, q0⟩, cc, e, lo, hi, q2, q3, q4, q5⟩ := _root_.id hh
    have hsz : d.cells.toList.length = k := by rw [← hc.length]; exact k1
    have hsz' : d.cells.size = k := by simpa using hsz
    have hst := run_storeCells (P := P) (a := l.addr.add fo) d.cells.toList 0 w (all_one_conc hc k3) (fun j _ hj => by
      rw [addr_add_add]
      refine ⟨?_, frozen_in q2 _ (q4 _ (by omega) (by omega))⟩
      rw [cell_in q2 q1]
      have : l.addr.off + (fo + j) < cc.size := by omega
      simp [this])
    obtain ⟨g1, g2, g3, g4, g5, g6⟩ := storeList_heap (addr_add_spot fo q1) d.cells.toList 0 w cc (by rw [addr_add_block]; exact q2) (by rw [addr_add_off]; omega)
    rw [addr_add_block] at g1 g2
    rw [addr_add_off, Nat.add_zero] at g1
    rw [k4]
    refine ⟨ρ, _, Good.turn hr hb1 rfl hl g4 g5 g6 (Nat.le_of_eq g3.symm) g2 ?_, .inr ⟨run_uS (run_storeAt h2 (by simpa using hsz) ?_), rfl⟩⟩
    · refine ⟨⟨q1, q0⟩, _, e, lo, hi, g1, ?_, ?_, ?_⟩
      · rw [putAt_length _ _ _ (by omega)]
        show _ ≤ (putAt cc.toList (l.addr.off + fo) d.cells.toList).length
        rw [putAt_length _ _ _ (by simp; omega)]
        simpa using q3
      · rw [putAt_length _ _ _ (by omega)]; exact q4
      · intro o v' ho
        obtain ⟨u, hu, hvu⟩ := putAt_holds (c := cc.toList) (off := l.addr.off) hc k3 (by omega) (by simpa using q3) (fun o v ho => by simpa using q5 o v ho) o v' ho
        exact ⟨u, by simpa using hu, hvu⟩
    · rw [q0, Nat.mul_zero, Nat.zero_add]; exact hst
  rw [aStore_eq] at ha
  unfold aStore0 at ha
  split at ha
  · rw [normL_eq] at ha
    obtain ⟨h1, h2'⟩ := must_some ha
    rw [normL_eq] at h2'
    simp only [Option.some.injEq] at h2'
    subst h2'
    simp only [Bool.and_eq_true] at h1
    exact var hb hv ⟨Nat.eq_of_beq_eq_true h1.1.1, ble_le h1.1.2, h1.2, rfl⟩
  · exact var hb hv (putDyn_some ha hok)
  · rename_i id idx fo v m st f opn
    simp only [ptrId, GL, VL, and_true] at hb hv
    obtain ⟨hp, hv⟩ := hv
    obtain ⟨l, hl, rfl⟩ := v_ptr hp
    have hc := v_cells hv
    rw [normL_eq] at ha
    obtain ⟨h1, h2'⟩ := must_some ha
    rw [normL_eq] at h2'
    simp only [Option.some.injEq] at h2'
    subst h2'
    simp only [Bool.and_eq_true] at h1
    have k1 := Nat.eq_of_beq_eq_true h1.1.1
    have k2 := ble_le h1.1.2
    have k3 := h1.2
    have k5 : idx < m := blt_lt hok
    obtain ⟨l', hl', hh⟩ := hr.holds _ _ hb
    rw [hl] at hl'; cases hl'
    obtain ⟨p1, p2, p3, p4⟩ := _root_.id hh
    obtain ⟨cc, e, lo, hi, q2, q1, q3, q4⟩ := p4 rfl
    subst p1
    have hst0 := (p3 idx k5).1
    have hsz : d.cells.toList.length = k := by rw [← hc.length]; exact k1
    have hsz' : d.cells.size = k := by simpa using hsz
    have hmul : idx * l.stride + l.stride ≤ m * l.stride := by
      have := Nat.mul_le_mul_right l.stride (show idx + 1 ≤ m by omega)
      rwa [Nat.succ_mul] at this
    have hex : m * l.stride ≤ (m + l.extra) * l.stride := Nat.mul_le_mul_right l.stride (by omega)
    have hst := run_storeCells (P := P) (a := l.addr.add (idx * l.stride + fo)) d.cells.toList 0 w (all_one_conc hc k3) (fun j _ hj => by
      rw [addr_add_add]
      refine ⟨?_, frozen_in q2 _ (q4 _ (by omega) (by omega))⟩
      rw [cell_in q2 q1]
      have : l.addr.off + (idx * l.stride + fo + j) < cc.size := by omega
      simp [this])
    obtain ⟨g1, g2, g3, g4, g5, g6⟩ := storeList_heap (addr_add_spot (idx * l.stride + fo) q1) d.cells.toList 0 w cc (by rw [addr_add_block]; exact q2) (by rw [addr_add_off]; omega)
    rw [addr_add_block] at g1 g2
    rw [addr_add_off, Nat.add_zero] at g1
    refine ⟨ρ, _, Good.turn hr hb rfl hl g4 g5 g6 (Nat.le_of_eq g3.symm) g2 ?_, .inr ⟨run_uS (run_storeAt h2 (by simpa using hsz) hst), rfl⟩⟩
    have hlen : (putAt cc.toList (l.addr.off + (idx * l.stride + fo)) d.cells.toList).length = cc.size := by
      rw [putAt_length _ _ _ (by simp; omega)]; simp
    refine ⟨rfl, p2, fun j hj => ?_, fun _ => ⟨_, e, lo, hi, g1, q1, by show _ ≤ (putAt _ _ _).length; omega, q4⟩⟩
    have hcell : ∀ o, o < l.stride → (storeList w (l.addr.add (idx * l.stride + fo)) d.cells.toList 0).cell? (l.addr.add (j * l.stride + o)) =
        (putAt cc.toList (l.addr.off + (idx * l.stride + fo)) d.cells.toList)[l.addr.off + (j * l.stride + o)]? := by
      intro o _
      rw [cell_in g1 q1]; simp
    by_cases e : j = idx
    · subst e
      have er : rowSet f j (putAt (f j) fo (vcells v)) j = putAt (f j) fo (vcells v) := by simp [rowSet]
      rw [er]
      refine ⟨by rw [putAt_length _ _ _ (by omega)]; exact hst0, fun o v' ho => ?_⟩
      have ho' : o < l.stride := by have := lt_of_get ho; rw [putAt_length _ _ _ (by omega), hst0] at this; exact this
      rw [hcell o ho']
      obtain ⟨u, hu, hvu⟩ := putAt_holds (c := cc.toList) (off := l.addr.off + j * l.stride) hc k3 (by omega) (by simp; omega) (fun o v ho => by
        obtain ⟨u, hu, hvu⟩ := (p3 j hj).2 o v ho
        rw [cell_in q2 q1] at hu
        exact ⟨u, by simpa [Nat.add_assoc] using hu, hvu⟩) o v' ho
      exact ⟨u, by rw [← Nat.add_assoc, ← Nat.add_assoc]; exact hu, hvu⟩
    · have er : rowSet f idx (putAt (f idx) fo (vcells v)) j = f j := by
        have : Nat.beq j idx = false := by
          cases hb : Nat.beq j idx with
          | false => rfl
          | true => exact absurd (Nat.eq_of_beq_eq_true hb) e
        simp [rowSet, this]
      rw [er]
      refine ⟨(p3 j hj).1, fun o v' ho => ?_⟩
      have ho' : o < l.stride := by have := lt_of_get ho; rw [(p3 j hj).1] at this; exact this
      obtain ⟨u, hu, hvu⟩ := (p3 j hj).2 o v' ho
      rw [cell_in q2 q1] at hu
      refine ⟨u, ?_, hvu⟩
      rw [hcell o ho', putAt_get _ _ _ _ (by simp; omega), if_neg ?_]
      · simpa using hu
      · rcases Nat.lt_or_ge j idx with h | h
        · have := Nat.mul_le_mul_right l.stride (show j + 1 ≤ idx by omega)
          rw [Nat.succ_mul] at this
          omega
        · have := Nat.mul_le_mul_right l.stride (show idx + 1 ≤ j by omega)
          rw [Nat.succ_mul] at this
          omega
  · cases ha
end Go.X
