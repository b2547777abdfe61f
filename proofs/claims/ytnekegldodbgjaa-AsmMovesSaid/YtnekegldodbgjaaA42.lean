/- Proved here: AsmMoves answers true at every input, and leaves what it was given as it was. There is no condition. -/
import Derived.Test.YtnekegldodbgjaaRows
import Derived.WalkKit
import Derived.ProofKit
import Derived.OpenShut
import Derived.ChangeOld
import Derived.WideKeyPair
import Derived.Below
import Derived.Test.YtnekegldodbgjaaA41
set_option linter.all false
set_option linter.unusedVariables false
set_option linter.unusedSimpArgs false
/-! The row of AsmMoves: it answers true, whatever is asked of it, and leaves what it was given as it was. -/
namespace Go.X
open Go Go.Proofs
/-- The call, over Go's own values. -/
theorem call_of {P : Program} {f : FuncId} {vs : List Value} {b : Bool} {n0 : Nat} {args : Array Value} {w : World} (h : Body P f vs [] (.bool b) [] n0 0) (ha : ∀ ρ, VL ρ vs args.toList) :
    Calls P f args w fun e w' => e = .returned (.bool b) ∧ Go.RowKit.Below w.heap.size w w' := by
  have hg : ∀ id, hget ([] : Hp) id = none := fun _ => rfl
  have hr : RelH P (fun _ => none) (hget []) w := ⟨fun id b h => (by rw [hg] at h; cases h), fun id b id' b' l l' h => (by rw [hg] at h; cases h)⟩
  refine (h.2 (fun _ => none) w args (ha _) hr (fun _ _ => rfl)).mono fun e w' he => ?_
  cases e with
  | returned c =>
    obtain ⟨ρ', good, hv⟩ := he
    rw [v_bool hv]
    refine ⟨rfl, good.fr.os, good.fr.tape, good.fr.output, good.fr.size, fun k hk => good.fr.block k hk ?_⟩
    rintro ⟨id, b, l, h0, _⟩
    rw [hg] at h0; cases h0
  | _ => exact he.elim
end Go.X
namespace Go.Proofs.Ytnekegldodbgjaa.asmMoves
open Go.ChangeShapes Go.WideShapes Go.ChangeAt Go.RowKit Go.WideMaps
set_option linter.unusedVariables false
theorem own : ownKnob Try.prog.godebug = none := by kernel_rfl
theorem laidOut : laidOutB Try.prog = true := by kernel_rfl
theorem pair : ArrKey Try.prog 22 3 2 := ⟨Try.underlying22, by kernel_rfl, by kernel_rfl, by kernel_rfl⟩
theorem walk (a a0 a1 : Int) (w : World) :
    Calls Try.prog 3 #[.int .i64 a, .agg #[.int .i64 a0, .int .i64 a1]] w fun e w' => e = .returned (.bool true) ∧ Below w.heap.size w w' :=
  Go.X.call_of (Go.X.c3 a a0 a1) fun ρ => ⟨.int _ _, .agg rfl (fun i v v' h h' => by
    match i, h, h' with
    | 0, h, h' => cases h; cases h'; exact .int _ _
    | 1, h, h' => cases h; cases h'; exact .int _ _), trivial⟩
set_option maxRecDepth 100000 in
theorem lifted (os : Os) (started : os.Started) (H : Type) (enc : TypeId × Value → H) :
    ReturnsInHanded {} Try.checked os 3 .any (Rows.asmMovesSpec.pre6 enc Try.prog Try.f3 Rows.asmMovesRow.domain false) (Rows.asmMovesSpec.post enc Try.prog Try.f3 false true false false) := by
  refine returnsInHanded_of_change (C := Try.checked) own started (by kernel_rfl) Try.func3
    (ChangeSpec.witness6 (enc := enc) (C := Try.checked) false ⟨#[], #[.int .i64 0, .agg #[.int .i64 0, .int .i64 0]], []⟩ 8 (by kernel_rfl) (by kernel_rfl) (by kernel_rfl) (by kernel_rfl)) ?_
  intro W base args ds gs before hval0 hW hcnd _
  have hval : ∀ (j : Nat) t v, Try.f3.params[j]? = some t → args[j]? = some v → Value.okWide Try.prog W .any base t v := hval0
  have hW' := hW
  obtain ⟨p, q, hA0, hV, rfl, hfz, hnd⟩ := hW
  have hA : DataW.TrodAll enc Try.prog W 0 (fun _ => true) true Try.f3.params.toList args.toList ds p := hA0
  rw [Try.params3] at hA hval
  obtain ⟨v0, v1, d0, d1, p0, p1, rfl, rfl, rfl, h0, h1⟩ := trodAll_two hA
  obtain ⟨rfl, rfl⟩ := trodVars_none hV
  have k0 := h0
  have k1 := h1
  have lt0 : ∀ x ∈ p0, x.block < W.heap.size := by obtain ⟨m, hm⟩ := k0; exact DataW.trod_lt m _ _ _ hm
  have lt1 : ∀ x ∈ p1, x.block < W.heap.size := by obtain ⟨m, hm⟩ := k1; exact DataW.trod_lt m _ _ _ hm
  obtain ⟨a, rfl⟩ := okWide_int Try.underlying3 (hval 0 3 v0 rfl rfl)
  obtain ⟨a0, a1, rfl, _⟩ := open_pair pair Try.underlying3 (hval 1 22 v1 rfl rfl) h1
  clear hA0 hval0
  refine (walk a a0 a1 W).mono fun e W' ⟨he, bel⟩ => ?_
  subst he
  exact ⟨_, rfl, _, _, _, [], _, [], hW', trodAll_mk1 (shut_bool Try.underlying4 _), (trodAll_cons_mk (Below.trod laidOut (by kernel_rfl) (of_decide_eq_true (by kernel_rfl)) k0 bel lt0) (trodAll_cons_mk (Below.trod laidOut (by kernel_rfl) (of_decide_eq_true (by kernel_rfl)) k1 bel lt1) trodAll_mk0)), rfl, bel.frame _, fun h => by cases h⟩
theorem over : Rows.asmMovesRow.holds Try.pinned (OpenSpec.ofChange Rows.asmMovesSpec) :=
  OpenClaim.holds_of_wide 3 Try.f3 rfl rfl rfl rfl rfl rfl rfl ⟨rfl, rfl, rfl, rfl, rfl⟩ rfl rfl rfl rfl rfl (by kernel_rfl) Try.func3 (by kernel_rfl)
    (of_decide_eq_true (by kernel_rfl)) (by unfold Func.isWrapper; first | (rw [if_pos (by decide +kernel)]; kernel_rfl) | (rw [if_neg (by decide +kernel)]; exact ⟨rfl, rfl⟩))
    (fun os started H enc _ => lifted os started H enc)
theorem proved : Rows.AsmMovesSaid := over
end Go.Proofs.Ytnekegldodbgjaa.asmMoves
