import Derived.Test.YtnekegldodbgjaaC05
namespace Go.X
open Go

theorem vcells_eq (v : Value) : vcells v = v.cells.toList := by cases v <;> rfl

theorem zeroCells_some {P : Program} {t : TypeId} {z : List Value} (h : zeroCells P t = some z) :
    ∃ i Z, P.info? t = some i ∧ i.zero = some Z ∧ Z.cells.toList = z ∧ z.all okc1 = true ∧ z.length = i.size := by
  unfold zeroCells at h
  split at h
  · rename_i i hi
    split at h
    · rename_i Z hZ
      cases hc : ((vcells Z).all okc1 && decide ((vcells Z).length = i.size)) with
      | false => simp [hc] at h
      | true =>
        simp only [hc, cond_true, Option.some.injEq] at h
        subst h
        simp only [Bool.and_eq_true, decide_eq_true_eq] at hc
        exact ⟨i, Z, hi, hZ, (vcells_eq Z).symm, hc.1, hc.2⟩
    · cases h
  · cases h

theorem new_runs {P : Program} {ρ : Rn} {g : G} {w : World} {n t : Nat} {z : List Value} (h : zeroCells P t = some z) (hr : RelH P ρ g w) (hn : ρ n = none) :
    Runs P (vS (Instr.alloc t true (.tuple #[]))) ρ g w n ⟨.pointer (some ⟨n, 0, some 0⟩), [(n, some (.var z))], 1, true⟩ := by
  obtain ⟨i, Z, h1, h2, h3, h4, h5⟩ := zeroCells_some h
  refine ⟨_, _, Good.var hr hn (c := Z.cells) (t := t) (by rw [h3]; exact VL.self h4) (okc1_ones h4), .inl ⟨_, run_vS ?_, v_newvar⟩⟩
  simp [Instr.alloc, zeroValue, typeInfo, h1, h2, newVar, newRow]

theorem box_runs {P : Program} {ρ : Rn} {g : G} {w : World} {n t : Nat} {vs : List Value} {c : Value} {r : Res} (ha : aBox n vs = some r) (hv : VL ρ vs [c]) (hr : RelH P ρ g w) (hn : ρ n = none) :
    Runs P (vS (Instr.box t c)) ρ g w n r := by
  unfold aBox at ha
  split at ha
  · rename_i v
    rw [normL_eq] at ha
    obtain ⟨h1, ha⟩ := must_some ha
    simp only [Option.some.injEq] at ha
    subst ha
    refine ⟨_, _, Good.var hr hn (c := c.cells) (t := t) (v_cells hv.1) h1, .inl ⟨_, run_vS ?_, v_newvar⟩⟩
    simp [Instr.box, newVar, newRow]
  · cases ha

/-- The parts of a literal: where each goes. -/
def PR (place : Nat → Option (Nat × Nat)) : List (Nat × Operand) → List (Nat × Nat × Operand) → Prop
  | [], [] => True
  | (i, x) :: l, (o, s, y) :: m => place i = some (o, s) ∧ x = y ∧ PR place l m
  | _, _ => False

theorem fill_VL {ρ : Rn} {place : Nat → Option (Nat × Nat)} {e : Operand → Value} : ∀ (l : List (Nat × Operand)) (ps : List (Nat × Nat × Operand)) (vs : List Value) (cs : List Value) (C : Array Value) (r : List Value),
    PR place l ps → VL ρ vs ((sndOps ps).map e) → VL ρ cs C.toList → fillAt cs ps vs = some r →
    ∃ R, Instr.fill place C (l.map fun p => (p.1, e p.2)) = some R ∧ VL ρ r R.toList
  | [], [], [], cs, C, r, _, _, hc, h => by simp [fillAt] at h; subst h; exact ⟨C, rfl, hc⟩
  | (i, x) :: l, (o, s, y) :: ps, v :: vs, cs, C, r, hp, hv, hc, h => by
    obtain ⟨hp1, rfl, hp2⟩ := hp
    obtain ⟨hv1, hv2⟩ := hv
    simp only [fillAt] at h
    have hcond : (Nat.beq (vcells v).length s && Nat.ble (o + s) cs.length) = true := by
      cases hb : (Nat.beq (vcells v).length s && Nat.ble (o + s) cs.length) with
      | true => rfl
      | false => simp [hb] at h
    rw [hcond] at h
    simp only [cond_true] at h
    simp only [Bool.and_eq_true] at hcond
    have e1 := Nat.eq_of_beq_eq_true hcond.1
    have e2 := ble_le hcond.2
    have hcv := v_cells hv1
    have e3 := hcv.length
    have e4 := hc.length
    obtain ⟨g1, g2⟩ := Great.foldl_set o (e x).cells.toList 0 C
    have hput : ((e x).cells.toList.zipIdx 0).foldl (fun cs (x : Value × Nat) => cs.setIfInBounds (o + x.2) x.1) C = ⟨putAt C.toList o (e x).cells.toList⟩ := by
      apply Array.ext'
      apply List.ext_getElem?
      intro j
      have := g2 j
      rw [← Array.getElem?_toList] at this
      rw [this]
      show _ = (putAt C.toList o (e x).cells.toList)[j]?
      rw [putAt_get _ _ _ _ (by omega)]
      simp only [Nat.add_zero]
      by_cases hj : o ≤ j ∧ j < o + (e x).cells.toList.length
      · rw [if_pos ⟨hj.1, hj.2, by simp at e4; omega⟩, if_pos hj]
      · rw [if_neg (by omega), if_neg hj]; simp
    obtain ⟨R, hR, hV⟩ := fill_VL l ps vs (putAt cs o (vcells v)) ⟨putAt C.toList o (e x).cells.toList⟩ r hp2 hv2 (hc.putAt hcv (by omega)) h
    refine ⟨R, ?_, hV⟩
    simp only [List.map_cons]
    unfold Instr.fill
    simp only [hp1]
    rw [if_neg (by simp at e3 e4 ⊢; omega)]
    rw [← hR, ← hput]
    congr 1
    rw [← Array.foldl_toList, Array.toList_zipIdx]
  | [], _ :: _, _, _, _, _, hp, _, _, _ => hp.elim
  | _ :: _, [], _, _, _, _, hp, _, _, _ => by rename_i a _ _ _ _ _ _ _ _; obtain ⟨_, _⟩ := a; exact hp.elim
  | [], [], _ :: _, _, _, _, _, hv, _, _ => hv.elim
  | _ :: _, (_, _, _) :: _, [], _, _, _, _, hv, _, _ => hv.elim

theorem PR_struct {P : Program} {fs : Array Field} : ∀ {l : List (Nat × Operand)} {ps : List (Nat × Nat × Operand)}, l.mapM (fun p => match fs[p.1]? with
        | some f => (sizeT P f.type).map fun s => (f.offset, s, p.2)
        | none => none) = some ps → ∀ {pl : List (Nat × Nat)}, fs.toList.mapM (fun f => (P.info? f.type).map fun i => (f.offset, i.size)) = some pl → PR (fun i => pl.toArray[i]?) l ps
  | [], ps, h, pl, hpl => by simp at h; subst h; trivial
  | (i, x) :: l, ps, h, pl, hpl => by
    simp only [List.mapM_cons, Option.bind_eq_bind, Option.pure_def] at h
    cases hf : fs[i]? with
    | none => simp [hf] at h
    | some f =>
      simp only [hf] at h
      cases hs : sizeT P f.type with
      | none => simp [hs] at h
      | some s =>
        cases hm : l.mapM (fun p => match fs[p.1]? with
          | some f => (sizeT P f.type).map fun s => (f.offset, s, p.2)
          | none => none) with
        | none => simp [hs, hm] at h
        | some ps' =>
          simp [hs, hm] at h
          subst h
          refine ⟨?_, rfl, PR_struct hm hpl⟩
          have : ∀ (fl : List Field) (pl : List (Nat × Nat)), fl.mapM (fun f => (P.info? f.type).map fun i => (f.offset, i.size)) = some pl → ∀ (i : Nat), fl[i]? = some f → pl[i]? = some (f.offset, s) := by
            intro fl
            induction fl with
            | nil => intro pl _ i hi; simp at hi
            | cons f0 fl ih =>
              intro pl hpl i hi
              simp only [List.mapM_cons, Option.bind_eq_bind, Option.pure_def] at hpl
              cases h0 : P.info? f0.type with
              | none => simp [h0] at hpl
              | some i0 =>
                cases hr : fl.mapM (fun f => (P.info? f.type).map fun i => (f.offset, i.size)) with
                | none => simp [h0, hr] at hpl
                | some rest =>
                  simp [h0, hr] at hpl
                  subst hpl
                  cases i with
                  | zero =>
                    simp at hi; subst hi
                    simp [sizeT, h0] at hs; subst hs; rfl
                  | succ i => simpa using ih rest hr i (by simpa using hi)
          simpa using this fs.toList pl hpl i (by simpa using hf)

theorem PR_array {s : Nat} : ∀ (l : List (Nat × Operand)), PR (fun i => some (i * s, s)) l (l.map fun p => (p.1 * s, s, p.2))
  | [] => trivial
  | (_, _) :: l => ⟨rfl, rfl, PR_array l⟩

theorem PR_partOff {s : Nat} : ∀ (l : List (Nat × Operand)), PR (fun i => some (i * s, s)) l (partOff s l)
  | [] => trivial
  | (_, _) :: l => ⟨rfl, rfl, PR_partOff l⟩

theorem sndOps_partOff {s : Nat} : ∀ (l : List (Nat × Operand)), sndOps (partOff s l) = sndOps2 l
  | [] => rfl
  | (_, _) :: l => by simp [partOff, sndOps, sndOps2, sndOps_partOff l]

theorem aBuild_some {zero : List Value} {ps : List (Nat × Nat × Operand)} {vs : List Value} {r : Res} (h : aBuild zero ps vs = some r) : ∃ cs, fillAt zero ps vs = some cs ∧ rv (.agg ⟨cs⟩) = some r := by
  unfold aBuild at h
  split at h
  · rename_i cs hcs
    rw [normL_eq] at h
    exact ⟨cs, hcs, h⟩
  · cases h

theorem build_runs {P : Program} {ρ : Rn} {g : G} {w : World} {n t : Nat} {zero : List Value} {parts : Array (Nat × Operand)} {ps : List (Nat × Nat × Operand)} {vs : List Value} {r : Res} {e : Operand → Value}
    (hz : zeroCells P t = some zero)
    (hc : (∃ fs, P.underlying t = some (.struct fs) ∧ (∀ f ∈ fs.toList, (sizeT P f.type).isSome = true) ∧ parts.toList.mapM (fun p => match fs[p.1]? with
        | some f => (sizeT P f.type).map fun s => (f.offset, s, p.2)
        | none => none) = some ps) ∨ ∃ len el s, P.underlying t = some (.array len el) ∧ sizeT P el = some s ∧ ps = parts.toList.map fun p => (p.1 * s, s, p.2))
    (ha : aBuild zero ps vs = some r) (hv : VL ρ vs ((sndOps ps).map e)) (hr : RelH P ρ g w) :
    Runs P (vS (Instr.build t (parts.map fun (i, x) => (i, e x)))) ρ g w n r := by
  obtain ⟨i, Z, h1, h2, h3, h4, h5⟩ := zeroCells_some hz
  obtain ⟨cs, hcs, hrv⟩ := aBuild_some ha
  have hZ : VL ρ zero Z.cells.toList := by rw [h3]; exact VL.self h4
  have hparts : (parts.map fun (i, x) => (i, e x)).toList = parts.toList.map fun p => (p.1, e p.2) := by simp
  rcases hc with ⟨fs, hu, hall, hm⟩ | ⟨len, el, s, hu, hs, rfl⟩
  · have hpl : ∃ pl, fs.toList.mapM (fun f => (P.info? f.type).map fun i => (f.offset, i.size)) = some pl := by
      have : ∀ (fl : List Field), (∀ f ∈ fl, (sizeT P f.type).isSome = true) → ∃ pl, fl.mapM (fun f => (P.info? f.type).map fun i => (f.offset, i.size)) = some pl := by
        intro fl
        induction fl with
        | nil => exact fun _ => ⟨[], rfl⟩
        | cons f fl ih =>
          intro h
          obtain ⟨pl, hpl⟩ := ih fun f hf => h f (by simp [hf])
          have h0 := h f (by simp)
          cases hi : P.info? f.type with
          | none => simp [sizeT, hi] at h0
          | some i => exact ⟨(f.offset, i.size) :: pl, by simp [List.mapM_cons, hi, hpl]⟩
      exact this _ hall
    obtain ⟨pl, hpl⟩ := hpl
    obtain ⟨R, hR, hV⟩ := fill_VL parts.toList ps vs zero Z.cells cs (PR_struct hm hpl) hv hZ hcs
    refine Runs.pureS hr (run_build w t _ R ?_) ⟨_, hrv⟩ (VL.agg hV)
    rw [hparts]
    simp only [Program.built, h1, hu, h2, hpl]
    exact hR
  · obtain ⟨R, hR, hV⟩ := fill_VL parts.toList _ vs zero Z.cells cs (PR_array parts.toList) hv hZ hcs
    refine Runs.pureS hr (run_build w t _ R ?_) ⟨_, hrv⟩ (VL.agg hV)
    unfold sizeT at hs
    cases hie : P.info? el with
    | none => simp [hie] at hs
    | some ie =>
      simp [hie] at hs
      subst hs
      rw [hparts]
      simp only [Program.built, h1, hu, h2, hie]
      exact hR
end Go.X
namespace Go.X
open Go

theorem zerosOf_length (z : List Value) : ∀ n, (zerosOf z n).length = n * z.length
  | 0 => by simp [zerosOf]
  | n + 1 => by simp [zerosOf, zerosOf_length z n, Nat.succ_mul]; omega

theorem zerosOf_get (z : List Value) (hz : 0 < z.length) : ∀ (n i : Nat), i < n * z.length → (zerosOf z n)[i]? = z[i % z.length]?
  | 0, i, h => by omega
  | n + 1, i, h => by
    rw [Nat.succ_mul] at h
    simp only [zerosOf]
    by_cases hi : i < z.length
    · rw [List.getElem?_append_left hi, Nat.mod_eq_of_lt hi]
    · rw [List.getElem?_append_right (by omega), zerosOf_get z hz n (i - z.length) (by omega)]
      congr 1
      exact (Nat.mod_eq_sub_mod (by omega)).symm

/-- New rows of the call's own. -/
theorem Good.rows {P : Program} {ρ : Rn} {g : G} {w w' : World} {n m st ex : Nat} {f : Nat → List Value} {opn : Bool} {c : Array Value} {t : TypeId} {lo hi : Nat} (h : RelH P ρ g w) (hn : ρ n = none)
    (hos : w'.os = w.os) (htape : w'.tape = w.tape) (hout : w'.output = w.output) (hsz : w'.heap.size = w.heap.size + 1) (hold : ∀ k, k < w.heap.size → w'.heap[k]? = w.heap[k]?)
    (hnew : w'.heap[w.heap.size]? = some (.cells c t (lo, hi))) (hlo : ∀ i, i < (m + ex) * st → ¬ (lo ≤ i ∧ i < hi)) (hopn : opn = false → ex = 0) (hc : (m + ex) * st ≤ c.size)
    (hf : ∀ j, j < m → (f j).length = st ∧ ∀ o v, (f j)[o]? = some v → ∃ u, c[j * st + o]? = some u ∧ CV ρ v u) :
    Good P ρ g w n [(n, some (.rows m st f opn false))] 1 (rset ρ n ⟨⟨w.heap.size, 0, none⟩, st, ex⟩) w' := by
  refine Good.fresh h hn hos htape hout (by omega) hold (Nat.le_refl _) ?_
  refine ⟨rfl, fun h _ => hopn h, fun j hj => ⟨(hf j hj).1, fun o v ho => ?_⟩, fun _ => ⟨c, t, lo, hi, hnew, rfl, by simpa using hc, fun i _ h2 => hlo i (by simpa using h2)⟩⟩
  obtain ⟨u, hu, hvu⟩ := (hf j hj).2 o v ho
  refine ⟨u, ?_, hvu.mono (le_rset _ hn)⟩
  have := cell_in (a := (⟨w.heap.size, 0, none⟩ : Addr)) hnew rfl (j * st + o)
  rw [this]; simpa using hu

theorem v_newrows {ρ : Rn} {n a st ex len cap : Nat} : V (rset ρ n ⟨⟨a, 0, none⟩, st, ex⟩) (.slice (some ⟨n, 0, none⟩) len cap) (.slice (some ⟨a, 0, none⟩) len (cap + ex)) := by
  have := V.slc (ρ := rset ρ n ⟨⟨a, 0, none⟩, st, ex⟩) (id := n) (idx := 0) (len := len) (cap := cap) (rset_same _ _ _)
  simpa [Addr.add] using this

theorem mkslice_runs {P : Program} {ρ : Rn} {g : G} {w : World} {n t el len : Nat} {zero : List Value} {parts : Array (Nat × Operand)} {vs : List Value} {r : Res} {e : Operand → Value}
    (hu : P.underlying t = some (.slice el)) (hz : zeroCells P el = some zero) (hpos : 0 < zero.length) (ha : aMkslice zero len parts.toList n vs = some r) (hok : r.ok = true)
    (hv : VL ρ vs ((sndOps2 parts.toList).map e)) (hr : RelH P ρ g w) (hn : ρ n = none) :
    Runs P (vS (Instr.buildSlice t len (parts.map fun (i, x) => (i, e x)))) ρ g w n r := by
  obtain ⟨i, Z, h1, h2, h3, h4, h5⟩ := zeroCells_some hz
  unfold aMkslice at ha
  split at ha
  · rename_i cs hcs
    rw [normL_eq] at ha
    obtain ⟨h1s, ha⟩ := must_some ha
    simp only [Option.some.injEq] at ha
    subst ha
    simp only [decide_eq_true_eq] at hok
    have hZs : Z.cells.size = zero.length := by rw [← h3]; simp
    by_cases hlen : len = 0
    · subst hlen
      have hsz : (0 * i.size = 0) := by simp
      have hfill : fillAt [] (partOff zero.length parts.toList) vs = some cs := hcs
      obtain ⟨R, hR, hV⟩ := fill_VL parts.toList _ vs [] #[] cs (PR_partOff parts.toList) (by rw [sndOps_partOff]; exact hv) trivial hfill
      have hrun : (Instr.buildSlice t 0 (parts.map fun (i, x) => (i, e x))).run P w = .ok (.slice (some ⟨w.heap.size, 0, none⟩) 0 0) (w.alloc (.cells R el)) := by
        have hparts : (parts.map fun (i, x) => (i, e x)).toList = parts.toList.map fun p => (p.1, e p.2) := by simp
        rw [← hparts, h5] at hR
        simp [Instr.buildSlice, run_underlying hu, sizeOf, typeInfo, h1, newRow]
        rw [show Array.range 0 = #[] from rfl]
        simp only [Array.map_empty]
        simp only [Array.toList_map] at hR
        rw [hR]; simp
      refine ⟨_, _, Good.rows (w' := w.alloc (.cells R el)) (c := R) (t := el) (lo := 0) (hi := 0) (ex := 0) hr hn rfl rfl rfl (by simp) (fun k hk => heap_push_old w _ k hk) (heap_alloc_new _ _) (fun i _ => by omega) (fun _ => rfl) (by simp) (fun j hj => by omega), .inl ⟨_, run_vS hrun, ?_⟩⟩
      exact v_newrows (ex := 0)
    · have hprod : ¬ len * i.size = 0 := by
        rw [← h5]; intro hx
        rcases Nat.mul_eq_zero.1 hx with h | h <;> omega
      have hVz : VL ρ (zerosOf zero len) ((Array.range (len * i.size)).map (Z.cells[· % Z.cells.size]!)).toList := by
        refine VL.of_get (by rw [zerosOf_length]; simp [h5]) fun j v c hv hc => ?_
        have hj : j < len * zero.length := by have := lt_of_get hv; rwa [zerosOf_length] at this
        rw [zerosOf_get zero hpos len j hj] at hv
        have hjm : j % Z.cells.size < Z.cells.size := Nat.mod_lt _ (by omega)
        have hj' : j < len * i.size := by rwa [← h5]
        have hc2 : c = Z.cells[j % Z.cells.size]! := by
          simp [hj'] at hc; exact hc.symm
        have hself := VL.self (ρ := ρ) h4
        rw [hc2]
        refine hself.get hv ?_
        rw [hZs] at hjm ⊢
        rw [← h3] at hjm ⊢
        simp at hjm ⊢
        simp [hjm]
      obtain ⟨R, hR, hV⟩ := fill_VL parts.toList _ vs _ _ cs (PR_partOff parts.toList) (by rw [sndOps_partOff]; exact hv) hVz hcs
      have hparts : (parts.map fun (i, x) => (i, e x)).toList = parts.toList.map fun p => (p.1, e p.2) := by simp
      have hrun := run_buildSlice (P := P) w t el len (parts.map fun (i, x) => (i, e x)) R i Z hu h1 h2 (by rw [← h5]; omega) hprod (by rw [hparts]; rw [h5] at hR; exact hR)
      have hlen' : ∀ {cs0 : List Value} {ps : List (Nat × Nat × Operand)} {vs : List Value} {cs : List Value}, fillAt cs0 ps vs = some cs → cs.length = cs0.length := by
        intro cs0 ps
        induction ps generalizing cs0 with
        | nil => intro vs cs h; cases vs with
          | nil => simp [fillAt] at h; rw [h]
          | cons => simp [fillAt] at h
        | cons p ps ih =>
          intro vs cs h
          obtain ⟨o, s, x⟩ := p
          cases vs with
          | nil => simp [fillAt] at h
          | cons v vs =>
            simp only [fillAt] at h
            cases hb : (Nat.beq (vcells v).length s && Nat.ble (o + s) cs0.length) with
            | false => simp [hb] at h
            | true =>
              simp only [hb, cond_true] at h
              simp only [Bool.and_eq_true] at hb
              have e1 := Nat.eq_of_beq_eq_true hb.1
              have e2 := ble_le hb.2
              rw [ih h, putAt_length _ _ _ (by omega)]
      have hcl : cs.length = len * zero.length := by rw [hlen' hcs, zerosOf_length]
      have hRl : R.size = len * zero.length := by rw [← hcl, hV.length]; simp
      refine ⟨_, _, Good.rows (w' := w.alloc (.cells R el)) (c := R) (t := el) (lo := 0) (hi := 0) (ex := 0) hr hn rfl rfl rfl (by simp) (fun k hk => heap_push_old w _ k hk) (heap_alloc_new _ _) (fun i _ => by omega) (fun _ => rfl) (by simp [hRl]) (fun j hj => ?_), .inl ⟨_, run_vS hrun, v_newrows (ex := 0)⟩⟩
      have hmul : j * zero.length + zero.length ≤ len * zero.length := by
        have := Nat.mul_le_mul_right zero.length (show j + 1 ≤ len by omega)
        rwa [Nat.succ_mul] at this
      refine ⟨slab_length (by omega), fun o v ho => ?_⟩
      have := slab_get ho
      have hlt := lt_of_get this
      have hlt' : j * zero.length + o < R.size := by omega
      refine ⟨R[j * zero.length + o], by simp [hlt'], List.all_eq_true.1 h1s v (List.mem_of_getElem? this), hV.get this (by simp [hlt'])⟩
  · cases ha
end Go.X
