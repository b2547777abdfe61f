/- AsmBranches answers true, whatever is asked of it; it ends, and changes nothing of what was there. -/
import Derived.Test.YtnekegldodbgjaaK29
import Derived.Test.YtnekegldodbgjaaK47
set_option linter.all false
namespace Go.Proofs.Ytnekegldodbgjaa.asmBranches
open Go.ChangeShapes Go.WideShapes Go.ChangeAt Go.RowKit Go.WideMaps
theorem own : ownKnob Try.prog.godebug = none := by kernel_rfl
theorem laidOut : laidOutB Try.prog = true := by kernel_rfl
theorem under5 : Try.prog.underlying 5 = some (.int .u8) := by kernel_rfl
theorem under54 : Try.prog.underlying 54 = some (.int .u64) := by kernel_rfl
theorem under3 : Try.prog.underlying 3 = some (.int .i64) := by kernel_rfl
theorem cells5 : Try.prog.cellsOf 5 = 1 := by kernel_rfl
theorem cells54 : Try.prog.cellsOf 54 = 1 := by kernel_rfl
theorem pair1 : ArrKey Try.prog 92 54 2 := ⟨by kernel_rfl, by kernel_rfl, by kernel_rfl, by kernel_rfl⟩
theorem walk (x0 : Int) (x1 y1 : Int) (x2 : Int) (w : World) (hx0 : IntKind.u8.has x0) (hx1 : IntKind.u64.has x1) (hy1 : IntKind.u64.has y1) (hx2 : IntKind.i64.has x2) : Calls Try.prog 15 #[.int .u8 x0, .agg #[.int .u64 x1, .int .u64 y1], .int .i64 x2] w fun e w' => e = .returned (.bool true) /\ Below w.heap.size w w' := by
  have hbody := Go.X.b15 (n0 := x2) (Go.X.u8_rng hx0) (Go.X.u64_uB hx1) (Go.X.u64_uB hy1)
  exact Go.X.call_ro hbody (fun _ => none) (fun _ _ => rfl) ⟨fun id b h => (by cases h), fun id b id' b' l l' h => (by cases h)⟩ (fun id b h => (by cases h)) ⟨.int _ _, .agg rfl (fun i v v' h h' => by match i, h, h' with | 0, h, h' => cases h; cases h'; exact .int _ _ | 1, h, h' => cases h; cases h'; exact .int _ _), .int _ _, trivial⟩
set_option maxRecDepth 100000 in
theorem lifted (os : Os) (started : os.Started) (H : Type) (enc : TypeId × Value -> H) :
    ReturnsInHanded {} Try.checked os 15 .any (Rows.asmBranchesSpec.pre6 enc Try.prog Try.f15 Rows.asmBranchesRow.domain false) (Rows.asmBranchesSpec.post enc Try.prog Try.f15 false true false false) := by
  refine returnsInHanded_of_change (C := Try.checked) own started (by kernel_rfl) Try.func15
    (ChangeSpec.witness6 (enc := enc) (C := Try.checked) false ⟨#[], #[.int .u8 0, .agg #[.int .u64 0, .int .u64 0], .int .i64 0], []⟩ 8 (by kernel_rfl) (by kernel_rfl) (by kernel_rfl) (by kernel_rfl)) ?_
  intro W base args ds gs before hval0 hW hcnd _
  have hval : ∀ (j : Nat) t v, Try.f15.params[j]? = some t -> args[j]? = some v -> Value.okWide Try.prog W .any base t v := hval0
  have hW' := hW
  obtain ⟨p, q, hA0, hV, rfl, hfz, hnd⟩ := hW
  have hA : DataW.TrodAll enc Try.prog W 0 (fun _ => true) true Try.f15.params.toList args.toList ds p := hA0
  rw [Try.params15] at hA hval
  obtain ⟨v0, v1, v2, d0, d1, d2, p0, p1, p2, rfl, rfl, rfl, h0, h1, h2⟩ := trodAll_three hA
  obtain ⟨rfl, rfl⟩ := trodVars_none hV
  have k0 := h0
  have k1 := h1
  have k2 := h2
  have lt0 : ∀ x ∈ p0, x.block < W.heap.size := by obtain ⟨m, hm⟩ := k0; exact DataW.trod_lt m _ _ _ hm
  have lt1 : ∀ x ∈ p1, x.block < W.heap.size := by obtain ⟨m, hm⟩ := k1; exact DataW.trod_lt m _ _ _ hm
  have lt2 : ∀ x ∈ p2, x.block < W.heap.size := by obtain ⟨m, hm⟩ := k2; exact DataW.trod_lt m _ _ _ hm
  obtain ⟨x0, rfl, hx0⟩ := Go.X.okWide_has (k := .u8) (by kernel_rfl) (hval 0 5 v0 rfl rfl)
  obtain ⟨x1, y1, rfl, _, _, hx1, hy1⟩ := open_pair pair1 under54 (hval 1 92 v1 rfl rfl) h1
  obtain ⟨x2, rfl, hx2⟩ := Go.X.okWide_has (k := .i64) (by kernel_rfl) (hval 2 3 v2 rfl rfl)
  clear hA0 hval0
  refine (walk x0 x1 y1 x2 W hx0 (Go.X.lit_has hx1) (Go.X.lit_has hy1) hx2).mono fun e W' ⟨he, bel⟩ => ?_
  subst he
  exact ⟨_, rfl, _, _, _, [], _, [], hW', trodAll_mk1 (shut_bool Try.underlying4 _), (trodAll_cons_mk (Below.trod laidOut (by kernel_rfl) (of_decide_eq_true (by kernel_rfl)) k0 bel lt0) (trodAll_cons_mk (Below.trod laidOut (by kernel_rfl) (of_decide_eq_true (by kernel_rfl)) k1 bel lt1) (trodAll_cons_mk (Below.trod laidOut (by kernel_rfl) (of_decide_eq_true (by kernel_rfl)) k2 bel lt2) trodAll_mk0))), rfl, bel.frame _, fun h => by cases h⟩
theorem over : Rows.asmBranchesRow.holds Try.pinned (OpenSpec.ofChange Rows.asmBranchesSpec) :=
  OpenClaim.holds_of_wide 15 Try.f15 rfl rfl rfl rfl rfl rfl rfl ⟨rfl, rfl, rfl, rfl, rfl⟩ rfl rfl rfl rfl rfl (by kernel_rfl) Try.func15 (by kernel_rfl)
    (of_decide_eq_true (by kernel_rfl)) (by unfold Func.isWrapper; first | (rw [if_pos (by decide +kernel)]; kernel_rfl) | (rw [if_neg (by decide +kernel)]; exact ⟨rfl, rfl⟩))
    (fun os started H enc _ => lifted os started H enc)
theorem proved : Rows.AsmBranchesSaid := over
end Go.Proofs.Ytnekegldodbgjaa.asmBranches
