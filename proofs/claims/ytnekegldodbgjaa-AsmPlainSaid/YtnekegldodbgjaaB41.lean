/- Proved here: AsmPlain answers true at every input, and leaves what it was given as it was. There is no condition. -/
import Derived.Test.YtnekegldodbgjaaRows
import Derived.WalkKit
import Derived.ProofKit
import Derived.OpenShut
import Derived.ChangeOld
import Derived.Deep.Slices
import Derived.Below
import Derived.Test.YtnekegldodbgjaaB40
set_option linter.all false
set_option linter.unusedVariables false
set_option linter.unusedSimpArgs false
/-! The row of AsmPlain: it answers true, whatever is asked of it, and leaves what it was given as it was. -/
namespace Go.X
open Go Go.Proofs
/-- The call of one that may read what it is given, and no more. -/
theorem call_ro {P : Program} {f : FuncId} {vs : List Value} {b : Bool} {n0 : Nat} {pre : Hp} {args : Array Value} {w : World} (h : Body P f vs pre (.bool b) [] n0 0) (ρ : Rn) (hd : ∀ id, n0 ≤ id → ρ id = none)
    (hr : RelH P ρ (hget pre) w) (hro : ∀ id b, hget pre id = some b → b.ro = true) (ha : VL ρ vs args.toList) :
    Calls P f args w fun e w' => e = .returned (.bool b) ∧ Go.RowKit.Below w.heap.size w w' := by
  refine (h.2 ρ w args ha hr hd).mono fun e w' he => ?_
  cases e with
  | returned c =>
    obtain ⟨ρ', good, hv⟩ := he
    rw [v_bool hv]
    refine ⟨rfl, good.fr.os, good.fr.tape, good.fr.output, good.fr.size, fun k hk => good.fr.block k hk ?_⟩
    rintro ⟨id, b, l, h0, h1, _⟩
    rw [hro id b h0] at h1; cases h1
  | _ => exact he.elim
end Go.X
namespace Go.Proofs.Ytnekegldodbgjaa.asmPlain
open Go.ChangeShapes Go.WideShapes Go.ChangeAt Go.RowKit
open Go.Deep (open_slice add_add)
open Go.X (Ins insR inL inpB RelH Holds Rn CV)
set_option linter.unusedVariables false
theorem own : ownKnob Try.prog.godebug = none := by kernel_rfl
theorem laidOut : laidOutB Try.prog = true := by kernel_rfl
theorem cells26 : Try.prog.cellsOf 26 = 5 := by kernel_rfl
theorem cells3 : Try.prog.cellsOf 3 = 1 := by kernel_rfl
theorem five {α : Type} {l : List α} (h : l.length = 5) : ∃ a b c d e, l = [a, b, c, d, e] := by
  match l, h with
  | [a, b, c, d, e], _ => exact ⟨a, b, c, d, e, rfl⟩
/-- An element's five cells. -/
theorem ins_row {H : Type} {enc : TypeId × Value → H} {w : World} {base : Nat} {spare : Nat → Bool} {held : Bool} {n : Nat} {cs : List Value} {x : DataW H × List MemPlace} (h : DataW.trod enc Try.prog w base spare held n 26 cs = some x) :
    ∃ i : Ins, cs = i.row := by
  obtain ⟨xs, n', _, _, hl, hxl, hf⟩ := DataW.trod_struct Try.underlying26 h
  have hl : cs.length = 5 := hl.trans cells26
  obtain ⟨c0, c1, c2, c3, c4, rfl⟩ := five hl
  obtain ⟨y0, y1, y2, y3, y4, rfl⟩ := five (show xs.length = 5 from hxl)
  · clear hl hxl h
    have t0 : DataW.trod enc Try.prog w base spare held n' 3 (([c0, c1, c2, c3, c4].drop 0).take (Try.prog.cellsOf 3)) = some y0 := hf 0 _ rfl
    have t1 : DataW.trod enc Try.prog w base spare held n' 3 (([c0, c1, c2, c3, c4].drop 1).take (Try.prog.cellsOf 3)) = some y1 := hf 1 _ rfl
    have t2 : DataW.trod enc Try.prog w base spare held n' 3 (([c0, c1, c2, c3, c4].drop 2).take (Try.prog.cellsOf 3)) = some y2 := hf 2 _ rfl
    have t3 : DataW.trod enc Try.prog w base spare held n' 3 (([c0, c1, c2, c3, c4].drop 3).take (Try.prog.cellsOf 3)) = some y3 := hf 3 _ rfl
    have t4 : DataW.trod enc Try.prog w base spare held n' 3 (([c0, c1, c2, c3, c4].drop 4).take (Try.prog.cellsOf 3)) = some y4 := hf 4 _ rfl
    rw [cells3] at t0 t1 t2 t3 t4
    obtain ⟨a0, e0, _⟩ := DataW.trod_int Try.underlying3 t0
    obtain ⟨a1, e1, _⟩ := DataW.trod_int Try.underlying3 t1
    obtain ⟨a2, e2, _⟩ := DataW.trod_int Try.underlying3 t2
    obtain ⟨a3, e3, _⟩ := DataW.trod_int Try.underlying3 t3
    obtain ⟨a4, e4, _⟩ := DataW.trod_int Try.underlying3 t4
    refine ⟨⟨a0, a1, a2, a3, a4⟩, ?_⟩
    have g0 : c0 = .int .i64 a0 := (List.cons.inj (show [c0] = [Value.int .i64 a0] from e0)).1
    have g1 : c1 = .int .i64 a1 := (List.cons.inj (show [c1] = [Value.int .i64 a1] from e1)).1
    have g2 : c2 = .int .i64 a2 := (List.cons.inj (show [c2] = [Value.int .i64 a2] from e2)).1
    have g3 : c3 = .int .i64 a3 := (List.cons.inj (show [c3] = [Value.int .i64 a3] from e3)).1
    have g4 : c4 = .int .i64 a4 := (List.cons.inj (show [c4] = [Value.int .i64 a4] from e4)).1
    rw [g0, g1, g2, g3, g4]; rfl
theorem row_len (i : Ins) : i.row.length = 5 := rfl
theorem walk (a : Addr) (len cap : Nat) (J : Nat → Ins) (x : Int) (w : World) (hJ : ∀ i, i < len → ∀ j, j < 5 → w.cell? (a.add (i * 5 + j)) = (J i).row[j]?) :
    Calls Try.prog 4 #[.slice (some a) len cap, .int .i64 x] w fun e w' => e = .returned (.bool true) ∧ Below w.heap.size w w' := by
  refine Go.X.call_ro (Go.X.c4 x len cap J) (fun id => bif Nat.beq id 2 then some ⟨a, 5, 0⟩ else none) (fun id hid => ?_) ⟨fun id b hb => ?_, fun id b id' b' l l' hb hb' hne hro => ?_⟩ (fun id b hb => ?_) ?_
  · have : Nat.beq id 2 = false := Go.X.beq_ff (by omega)
    simp only [this, cond_false]
  · simp only [Go.X.mkH, Go.X.hget] at hb
    cases h2 : Nat.beq 2 id with
    | false => rw [h2] at hb; cases hb
    | true =>
      have := Nat.eq_of_beq_eq_true h2
      subst this
      simp only [Nat.beq_refl, cond_true, Option.some.injEq] at hb
      subst hb
      refine ⟨⟨a, 5, 0⟩, rfl, rfl, fun _ h => (by cases h), fun i hi => ⟨row_len _, fun o v hv => ?_⟩, fun h => (by cases h)⟩
      have ho : o < 5 := by
        have := (List.getElem?_eq_some_iff.1 hv).1
        exact this
      refine ⟨v, (hJ i hi o ho).trans hv, ?_⟩
      have hv : (J i).row[o]? = some v := hv
      match o, ho, hv with
      | 0, _, hv => cases hv; exact ⟨rfl, .int _ _⟩
      | 1, _, hv => cases hv; exact ⟨rfl, .int _ _⟩
      | 2, _, hv => cases hv; exact ⟨rfl, .int _ _⟩
      | 3, _, hv => cases hv; exact ⟨rfl, .int _ _⟩
      | 4, _, hv => cases hv; exact ⟨rfl, .int _ _⟩
  · simp only [Go.X.mkH, Go.X.hget] at hb
    cases h2 : Nat.beq 2 id with
    | false => rw [h2] at hb; cases hb
    | true =>
      rw [h2] at hb
      simp only [cond_true, Option.some.injEq] at hb
      subst hb; cases hro
  · simp only [Go.X.mkH, Go.X.hget] at hb
    cases h2 : Nat.beq 2 id with
    | false => rw [h2] at hb; cases hb
    | true =>
      rw [h2] at hb
      simp only [cond_true, Option.some.injEq] at hb
      subst hb; rfl
  · refine ⟨?_, .int _ _, trivial⟩
    have h := Go.X.V.slc (ρ := fun id => bif Nat.beq id 2 then some ⟨a, 5, 0⟩ else none) (id := 2) (idx := 0) (l := ⟨a, 5, 0⟩) (len := len) (cap := cap) rfl
    simpa [Addr.add] using h
theorem walkN (x : Int) (w : World) : Calls Try.prog 4 #[.slice none 0 0, .int .i64 x] w fun e w' => e = .returned (.bool true) ∧ Below w.heap.size w w' :=
  Go.X.call_ro (Go.X.c4n x) (fun _ => none) (fun _ _ => rfl) ⟨fun id b hb => (by cases hb), fun id b id' b' l l' hb => (by cases hb)⟩ (fun id b hb => (by cases hb)) ⟨.snil, .int _ _, trivial⟩
set_option maxRecDepth 100000 in
theorem lifted (os : Os) (started : os.Started) (H : Type) (enc : TypeId × Value → H) :
    ReturnsInHanded {} Try.checked os 4 .any (Rows.asmPlainSpec.pre6 enc Try.prog Try.f4 Rows.asmPlainRow.domain false) (Rows.asmPlainSpec.post enc Try.prog Try.f4 false true false false) := by
  refine returnsInHanded_of_change (C := Try.checked) own started (by kernel_rfl) Try.func4
    (ChangeSpec.witness6 (enc := enc) (C := Try.checked) false ⟨#[], #[.slice none 0 0, .int .i64 0], []⟩ 8 (by kernel_rfl) (by kernel_rfl) (by kernel_rfl) (by kernel_rfl)) ?_
  intro W base args ds gs before hval0 hW hcnd _
  have hval : ∀ (j : Nat) t v, Try.f4.params[j]? = some t → args[j]? = some v → Value.okWide Try.prog W .any base t v := hval0
  have hW' := hW
  obtain ⟨p, q, hA0, hV, rfl, hfz, hnd⟩ := hW
  have hA : DataW.TrodAll enc Try.prog W 0 (fun _ => true) true Try.f4.params.toList args.toList ds p := hA0
  rw [Try.params4] at hA hval
  obtain ⟨v0, v1, d0, d1, p0, p1, rfl, rfl, rfl, h0, h1⟩ := trodAll_two hA
  obtain ⟨rfl, rfl⟩ := trodVars_none hV
  have k0 := h0
  have k1 := h1
  have lt0 : ∀ x ∈ p0, x.block < W.heap.size := by obtain ⟨m, hm⟩ := k0; exact DataW.trod_lt m _ _ _ hm
  have lt1 : ∀ x ∈ p1, x.block < W.heap.size := by obtain ⟨m, hm⟩ := k1; exact DataW.trod_lt m _ _ _ hm
  obtain ⟨a0, len0, cap0, rfl⟩ := okWide_slice Try.underlying37 (hval 0 37 v0 rfl rfl)
  obtain ⟨x, rfl⟩ := okWide_int Try.underlying3 (hval 1 3 v1 rfl rfl)
  have call : Calls Try.prog 4 #[.slice a0 len0 cap0, .int .i64 x] W fun e w' => e = .returned (.bool true) ∧ Below W.heap.size W w' := by
    obtain ⟨fuel, hf⟩ := h0
    rcases open_slice Try.underlying37 hf with ⟨hcs, _⟩ | ⟨a, len, cap, m, n, D, Pl, hcs, hb, hl, hm, hmm, hx, hi⟩
    · simp [Value.cells] at hcs
      obtain ⟨rfl, rfl, rfl⟩ := hcs
      exact walkN x W
    · simp [Value.cells] at hcs
      obtain ⟨rfl, rfl, rfl⟩ := hcs
      have hlm : len0 ≤ m := by rw [hmm]; simpa using hl
      have hE : ∀ i : Nat, ∃ ins : Ins, i < len0 → ∀ j, j < 5 → W.cell? (a.add (i * 5 + j)) = ins.row[j]? := fun i => by
        by_cases hil : i < len0
        · obtain ⟨cs, hc, ht⟩ := hi i (Nat.lt_of_lt_of_le hil hlm)
          rw [cells26] at hc
          obtain ⟨_, _, hat⟩ := World.cells?_some hc
          obtain ⟨ins, rfl⟩ := ins_row ht
          exact ⟨ins, fun _ j hj => by rw [← add_add]; exact hat j hj⟩
        · exact ⟨⟨0, 0, 0, 0, 0⟩, fun h => absurd h hil⟩
      obtain ⟨J, hJ⟩ := Classical.axiomOfChoice hE
      exact walk a len0 cap0 J x W hJ
  clear hA0 hval0
  refine call.mono fun e W' ⟨he, bel⟩ => ?_
  subst he
  exact ⟨_, rfl, _, _, _, [], _, [], hW', trodAll_mk1 (shut_bool Try.underlying4 _), (trodAll_cons_mk (Below.trod laidOut (by kernel_rfl) (of_decide_eq_true (by kernel_rfl)) k0 bel lt0) (trodAll_cons_mk (Below.trod laidOut (by kernel_rfl) (of_decide_eq_true (by kernel_rfl)) k1 bel lt1) trodAll_mk0)), rfl, bel.frame _, fun h => by cases h⟩
theorem over : Rows.asmPlainRow.holds Try.pinned (OpenSpec.ofChange Rows.asmPlainSpec) :=
  OpenClaim.holds_of_wide 4 Try.f4 rfl rfl rfl rfl rfl rfl rfl ⟨rfl, rfl, rfl, rfl, rfl⟩ rfl rfl rfl rfl rfl (by kernel_rfl) Try.func4 (by kernel_rfl)
    (of_decide_eq_true (by kernel_rfl)) (by unfold Func.isWrapper; first | (rw [if_pos (by decide +kernel)]; kernel_rfl) | (rw [if_neg (by decide +kernel)]; exact ⟨rfl, rfl⟩))
    (fun os started H enc _ => lifted os started H enc)
theorem proved : Rows.AsmPlainSaid := over
end Go.Proofs.Ytnekegldodbgjaa.asmPlain
