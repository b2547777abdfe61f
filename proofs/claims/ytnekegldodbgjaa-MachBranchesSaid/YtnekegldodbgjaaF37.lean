/- MachBranches answers true, whatever is asked of it; it ends, and changes nothing of what was there. -/
import Derived.Test.YtnekegldodbgjaaRows
import Derived.WalkKit
import Derived.ProofKit
import Derived.OpenShut
import Derived.ChangeOld
import Derived.WideKeyPair
import Derived.Below
import Derived.Test.YtnekegldodbgjaaF36
set_option linter.all false
set_option linter.unusedVariables false
set_option linter.unusedSimpArgs false
namespace Go.X
open Go Go.Proofs
theorem call_of {P : Program} {f : FuncId} {vs : List Value} {b : Bool} {n0 : Nat} {args : Array Value} {w : World} (h : Body P f vs [] (.bool b) [] n0 0) (ha : ∀ ρ, VL ρ vs args.toList) :
    Calls P f args w fun e w' => e = .returned (.bool b) ∧ Go.RowKit.Below w.heap.size w w' := by
  have hg : ∀ id, hget ([] : Hp) id = none := fun _ => rfl
  have hr : RelH P (fun _ => none) (hget []) w := ⟨fun id b h => (by rw [hg] at h; cases h), fun id b id' b' l l' h => (by rw [hg] at h; cases h)⟩
  refine (h.2 (fun _ => none) w args (ha _) hr (fun _ _ => rfl)).mono fun e w' he => ?_
  cases e with
  | returned c =>
    obtain ⟨ρ', good, hv⟩ := he
    rw [v_bool hv]
    refine ⟨rfl, good.fr.os, good.fr.tape, good.fr.output, good.fr.size, fun k hk => good.fr.block k hk ?_⟩
    rintro ⟨id, b, l, h0, _⟩
    rw [hg] at h0; cases h0
  | _ => exact he.elim
theorem okWide_has {P : Program} {w : World} {r : Reach} {base : Nat} {t : TypeId} {v : Value} {k : IntKind} (ht : P.underlying t = some (.int k)) (h : Value.okWide P w r base t v) : ∃ n, v = .int k n ∧ k.has n := by
  simp only [Value.okWide, ht, Cell.okWide] at h
  cases v <;> simp_all [Cell.ok]
theorem u64_uB {n : Int} (h : IntKind.u64.has n) : uB n = true := uB_iff.2 ⟨h.1, by have := h.2; rw [show IntKind.u64.max = 18446744073709551615 from rfl] at this; omega⟩
theorem u8_rng {n : Int} (h : IntKind.u8.has n) : 0 ≤ n ∧ n < 256 := ⟨h.1, by have := h.2; rw [show IntKind.u8.max = 255 from rfl] at this; omega⟩
end Go.X
namespace Go.Proofs.Ytnekegldodbgjaa.machBranches
open Go.ChangeShapes Go.WideShapes Go.ChangeAt Go.RowKit Go.WideMaps
set_option linter.unusedVariables false
theorem own : ownKnob Try.prog.godebug = none := by kernel_rfl
theorem laidOut : laidOutB Try.prog = true := by kernel_rfl
theorem walk (o a b : Int) (ho : 0 ≤ o ∧ o < 256) (ha : Go.X.uB a = true) (hb : Go.X.uB b = true) (w : World) : Calls Try.prog 9 #[.int .u8 o, .int .u64 a, .int .u64 b] w fun e w' => e = .returned (.bool true) ∧ Below w.heap.size w w' :=
  Go.X.call_of (Go.X.b9 ho.1 ho.2 ha hb) fun ρ => ⟨.int _ _, .int _ _, .int _ _, trivial⟩
set_option maxRecDepth 100000 in
theorem lifted (os : Os) (started : os.Started) (H : Type) (enc : TypeId × Value → H) :
    ReturnsInHanded {} Try.checked os 9 .any (Rows.machBranchesSpec.pre6 enc Try.prog Try.f9 Rows.machBranchesRow.domain false) (Rows.machBranchesSpec.post enc Try.prog Try.f9 false true false false) := by
  refine returnsInHanded_of_change (C := Try.checked) own started (by kernel_rfl) Try.func9
    (ChangeSpec.witness6 (enc := enc) (C := Try.checked) false ⟨#[], #[.int .u8 0, .int .u64 0, .int .u64 0], []⟩ 8 (by kernel_rfl) (by kernel_rfl) (by kernel_rfl) (by kernel_rfl)) ?_
  intro W base args ds gs before hval0 hW hcnd _
  have hval : ∀ (j : Nat) t v, Try.f9.params[j]? = some t → args[j]? = some v → Value.okWide Try.prog W .any base t v := hval0
  have hW' := hW
  obtain ⟨p, q, hA0, hV, rfl, hfz, hnd⟩ := hW
  have hA : DataW.TrodAll enc Try.prog W 0 (fun _ => true) true Try.f9.params.toList args.toList ds p := hA0
  rw [Try.params9] at hA hval
  obtain ⟨v0, v1, v2, d0, d1, d2, p0, p1, p2, rfl, rfl, rfl, h0, h1, h2⟩ := trodAll_three hA
  obtain ⟨rfl, rfl⟩ := trodVars_none hV
  have k0 := h0
  have k1 := h1
  have k2 := h2
  have lt0 : ∀ x ∈ p0, x.block < W.heap.size := by obtain ⟨m, hm⟩ := k0; exact DataW.trod_lt m _ _ _ hm
  have lt2 : ∀ x ∈ p2, x.block < W.heap.size := by obtain ⟨m, hm⟩ := k2; exact DataW.trod_lt m _ _ _ hm
  have lt1 : ∀ x ∈ p1, x.block < W.heap.size := by obtain ⟨m, hm⟩ := k1; exact DataW.trod_lt m _ _ _ hm
  obtain ⟨n, rfl, hn⟩ := Go.X.okWide_has (k := .u8) (by kernel_rfl) (hval 0 _ v0 rfl rfl)
  obtain ⟨a, rfl, ha⟩ := Go.X.okWide_has (k := .u64) (by kernel_rfl) (hval 1 _ v1 rfl rfl)
  obtain ⟨b, rfl, hb⟩ := Go.X.okWide_has (k := .u64) (by kernel_rfl) (hval 2 _ v2 rfl rfl)
  clear hA0 hval0
  refine (walk n a b (Go.X.u8_rng hn) (Go.X.u64_uB ha) (Go.X.u64_uB hb) W).mono fun e W' ⟨he, bel⟩ => ?_
  subst he
  exact ⟨_, rfl, _, _, _, [], _, [], hW', trodAll_mk1 (shut_bool Try.underlying4 _), (trodAll_cons_mk (Below.trod laidOut (by kernel_rfl) (of_decide_eq_true (by kernel_rfl)) k0 bel lt0) (trodAll_cons_mk (Below.trod laidOut (by kernel_rfl) (of_decide_eq_true (by kernel_rfl)) k1 bel lt1) (trodAll_cons_mk (Below.trod laidOut (by kernel_rfl) (of_decide_eq_true (by kernel_rfl)) k2 bel lt2) trodAll_mk0))), rfl, bel.frame _, fun h => by cases h⟩
theorem over : Rows.machBranchesRow.holds Try.pinned (OpenSpec.ofChange Rows.machBranchesSpec) :=
  OpenClaim.holds_of_wide 9 Try.f9 rfl rfl rfl rfl rfl rfl rfl ⟨rfl, rfl, rfl, rfl, rfl⟩ rfl rfl rfl rfl rfl (by kernel_rfl) Try.func9 (by kernel_rfl)
    (of_decide_eq_true (by kernel_rfl)) (by unfold Func.isWrapper; first | (rw [if_pos (by decide +kernel)]; kernel_rfl) | (rw [if_neg (by decide +kernel)]; exact ⟨rfl, rfl⟩))
    (fun os started H enc _ => lifted os started H enc)
theorem proved : Rows.MachBranchesSaid := over
end Go.Proofs.Ytnekegldodbgjaa.machBranches
