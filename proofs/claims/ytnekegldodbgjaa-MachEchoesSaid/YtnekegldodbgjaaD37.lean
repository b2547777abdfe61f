/- MachEchoes answers true, whatever is asked of it; it ends, and changes nothing of what was there. -/
import Derived.Test.YtnekegldodbgjaaRows
import Derived.WalkKit
import Derived.ProofKit
import Derived.OpenShut
import Derived.ChangeOld
import Derived.Deep.Slices
import Derived.Below
import Derived.Test.YtnekegldodbgjaaD36
set_option linter.all false
set_option linter.unusedVariables false
set_option linter.unusedSimpArgs false
namespace Go.X
open Go Go.Proofs
theorem call_ro {P : Program} {f : FuncId} {vs : List Value} {b : Bool} {n0 : Nat} {pre : Hp} {args : Array Value} {w : World} (h : Body P f vs pre (.bool b) [] n0 0) (ρ : Rn) (hd : ∀ id, n0 ≤ id → ρ id = none)
    (hr : RelH P ρ (hget pre) w) (hro : ∀ id b, hget pre id = some b → b.ro = true) (ha : VL ρ vs args.toList) :
    Calls P f args w fun e w' => e = .returned (.bool b) ∧ Go.RowKit.Below w.heap.size w w' := by
  refine (h.2 ρ w args ha hr hd).mono fun e w' he => ?_
  cases e with
  | returned c =>
    obtain ⟨ρ', good, hv⟩ := he
    rw [v_bool hv]
    refine ⟨rfl, good.fr.os, good.fr.tape, good.fr.output, good.fr.size, fun k hk => good.fr.block k hk ?_⟩
    rintro ⟨id, b, l, h0, h1, _⟩
    rw [hro id b h0] at h1; cases h1
  | _ => exact he.elim
end Go.X
namespace Go.Proofs.Ytnekegldodbgjaa.machEchoes
open Go.ChangeShapes Go.WideShapes Go.ChangeAt Go.RowKit
open Go.Deep (open_slice1)
open Go.X (RelH Holds Rn CV)
set_option linter.unusedVariables false
theorem own : ownKnob Try.prog.godebug = none := by kernel_rfl
theorem laidOut : laidOutB Try.prog = true := by kernel_rfl
theorem under41 : Try.prog.underlying 41 = some (.slice 5) := by kernel_rfl
theorem under5 : Try.prog.underlying 5 = some (.int .u8) := by kernel_rfl
theorem cells5 : Try.prog.cellsOf 5 = 1 := by kernel_rfl
theorem lit_u8 {n : Int} (h : (Lit.int .u8 n).wf = true) : 0 ≤ n ∧ n < 256 := by
  have h : IntKind.u8.min ≤ n ∧ n ≤ IntKind.u8.max := by simpa [Lit.wf] using h
  have h0 : IntKind.u8.min = 0 := rfl
  have h1 : IntKind.u8.max = 255 := rfl
  rw [h0, h1] at h
  omega
theorem walk (a : Addr) (len cap : Nat) (inp : Nat → Int) (w : World) (hl : len ≤ cap) (hx : ∀ i, i < len → w.cell? (a.add i) = some (.int .u8 (inp i)) ∧ (0 ≤ inp i ∧ inp i < 256)) :
    Calls Try.prog 6 #[.slice (some a) len cap] w fun e w' => e = .returned (.bool true) ∧ Below w.heap.size w w' := by
  refine Go.X.call_ro (Go.X.b6 (bi := true) (k := 0) (L := len) (C := cap) (T := len) (inp := inp) hl (by omega) (fun j hj => by rw [Nat.zero_add]; exact (hx j hj).2) (fun h => by cases h))
    (fun id => bif Nat.beq id 40 then some ⟨a, 1, 0⟩ else none) (fun id hid => ?_) ⟨fun id b hb => ?_, fun id b id' b' l l' hb hb' hne hro => ?_⟩ (fun id b hb => ?_) ?_
  · have : Nat.beq id 40 = false := Go.X.beq_ff (by omega)
    simp only [this, cond_false]
  · simp only [Go.X.exI, cond_true, Go.X.mkH, Go.X.hget] at hb
    cases h2 : Nat.beq 40 id with
    | false => rw [h2] at hb; cases hb
    | true =>
      have := Nat.eq_of_beq_eq_true h2
      subst this
      simp only [Nat.beq_refl, cond_true, Option.some.injEq] at hb
      subst hb
      refine ⟨⟨a, 1, 0⟩, rfl, rfl, fun _ h => (by cases h), fun i hi => ⟨rfl, fun o v hv => ?_⟩, fun h => (by cases h)⟩
      have ho : o < 1 := (List.getElem?_eq_some_iff.1 hv).1
      obtain rfl : o = 0 := by omega
      cases hv
      refine ⟨_, ?_, rfl, .int _ _⟩
      have := (hx i hi).1
      simpa using this
  · simp only [Go.X.exI, cond_true, Go.X.mkH, Go.X.hget] at hb
    cases h2 : Nat.beq 40 id with
    | false => rw [h2] at hb; cases hb
    | true =>
      rw [h2] at hb
      simp only [cond_true, Option.some.injEq] at hb
      subst hb; cases hro
  · simp only [Go.X.exI, cond_true, Go.X.mkH, Go.X.hget] at hb
    cases h2 : Nat.beq 40 id with
    | false => rw [h2] at hb; cases hb
    | true =>
      rw [h2] at hb
      simp only [cond_true, Option.some.injEq] at hb
      subst hb; rfl
  · refine ⟨?_, trivial⟩
    have h := Go.X.V.slc (ρ := fun id => bif Nat.beq id 40 then some ⟨a, 1, 0⟩ else none) (id := 40) (idx := 0) (l := ⟨a, 1, 0⟩) (len := len) (cap := cap) rfl
    simpa [Addr.add, Go.X.vI] using h
theorem walkN (w : World) : Calls Try.prog 6 #[.slice none 0 0] w fun e w' => e = .returned (.bool true) ∧ Below w.heap.size w w' :=
  Go.X.call_ro (Go.X.b6 (bi := false) (k := 0) (L := 0) (C := 0) (T := 0) (inp := fun _ => 0) (by omega) (by omega) (fun j hj => by omega) (fun _ => rfl)) (fun _ => none) (fun _ _ => rfl)
    ⟨fun id b hb => (by cases hb), fun id b id' b' l l' hb => (by cases hb)⟩ (fun id b hb => (by cases hb)) ⟨.snil, trivial⟩
set_option maxRecDepth 100000 in
theorem lifted (os : Os) (started : os.Started) (H : Type) (enc : TypeId × Value → H) :
    ReturnsInHanded {} Try.checked os 6 .any (Rows.machEchoesSpec.pre6 enc Try.prog Try.f6 Rows.machEchoesRow.domain false) (Rows.machEchoesSpec.post enc Try.prog Try.f6 false true false false) := by
  refine returnsInHanded_of_change (C := Try.checked) own started (by kernel_rfl) Try.func6
    (ChangeSpec.witness6 (enc := enc) (C := Try.checked) false ⟨#[], #[.slice none 0 0], []⟩ 8 (by kernel_rfl) (by kernel_rfl) (by kernel_rfl) (by kernel_rfl)) ?_
  intro W base args ds gs before hval0 hW hcnd _
  have hval : ∀ (j : Nat) t v, Try.f6.params[j]? = some t → args[j]? = some v → Value.okWide Try.prog W .any base t v := hval0
  have hW' := hW
  obtain ⟨p, q, hA0, hV, rfl, hfz, hnd⟩ := hW
  have hA : DataW.TrodAll enc Try.prog W 0 (fun _ => true) true Try.f6.params.toList args.toList ds p := hA0
  rw [Try.params6] at hA hval
  obtain ⟨v0, d0, rfl, rfl, h0⟩ := trodAll_one hA
  obtain ⟨rfl, rfl⟩ := trodVars_none hV
  have k0 := h0
  have lt0 : ∀ x ∈ p, x.block < W.heap.size := by obtain ⟨m, hm⟩ := k0; exact DataW.trod_lt m _ _ _ hm
  obtain ⟨a0, len0, cap0, rfl⟩ := okWide_slice under41 (hval 0 41 v0 rfl rfl)
  have call : Calls Try.prog 6 #[.slice a0 len0 cap0] W fun e w' => e = .returned (.bool true) ∧ Below W.heap.size W w' := by
    obtain ⟨fuel, hf⟩ := h0
    rcases open_slice1 under41 cells5 hf with ⟨hcs, _⟩ | ⟨a, len, cap, m, n, V, D, Pl, hcs, hb, hl, hm, hmm, hx, hi⟩
    · simp [Value.cells] at hcs
      obtain ⟨rfl, rfl, rfl⟩ := hcs
      exact walkN W
    · simp [Value.cells] at hcs
      obtain ⟨rfl, rfl, rfl⟩ := hcs
      have hlm : len0 ≤ m := by rw [hmm]; simpa using hl
      have hE : ∀ i : Nat, ∃ z : Int, i < len0 → W.cell? (a.add i) = some (.int .u8 z) ∧ (0 ≤ z ∧ z < 256) := fun i => by
        by_cases hil : i < len0
        · obtain ⟨hc, ht⟩ := hi i (Nat.lt_of_lt_of_le hil hlm)
          obtain ⟨z, e, _, hwf⟩ := DataW.trod_int under5 ht
          have e := (List.cons.inj e).1
          exact ⟨z, fun _ => ⟨by rw [hc, e], lit_u8 hwf⟩⟩
        · exact ⟨0, fun h => absurd h hil⟩
      obtain ⟨J, hJ⟩ := Classical.axiomOfChoice hE
      exact walk a len0 cap0 J W hl hJ
  clear hA0 hval0
  refine call.mono fun e W' ⟨he, bel⟩ => ?_
  subst he
  exact ⟨_, rfl, _, _, _, [], _, [], hW', trodAll_mk1 (shut_bool Try.underlying4 _), (trodAll_cons_mk (Below.trod laidOut (by kernel_rfl) (of_decide_eq_true (by kernel_rfl)) k0 bel lt0) trodAll_mk0), rfl, bel.frame _, fun h => by cases h⟩
theorem over : Rows.machEchoesRow.holds Try.pinned (OpenSpec.ofChange Rows.machEchoesSpec) :=
  OpenClaim.holds_of_wide 6 Try.f6 rfl rfl rfl rfl rfl rfl rfl ⟨rfl, rfl, rfl, rfl, rfl⟩ rfl rfl rfl rfl rfl (by kernel_rfl) Try.func6 (by kernel_rfl)
    (of_decide_eq_true (by kernel_rfl)) (by unfold Func.isWrapper; first | (rw [if_pos (by decide +kernel)]; kernel_rfl) | (rw [if_neg (by decide +kernel)]; exact ⟨rfl, rfl⟩))
    (fun os started H enc _ => lifted os started H enc)
theorem proved : Rows.MachEchoesSaid := over
end Go.Proofs.Ytnekegldodbgjaa.machEchoes
