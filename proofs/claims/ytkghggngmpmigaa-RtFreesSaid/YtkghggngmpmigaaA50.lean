/- RtFrees: proved that hauberklaw18.RtFrees answers true, whatever it is given, and leaves that as it was; there are no conditions. -/
import Derived.Test.YtkghggngmpmigaaA29
import Derived.Test.YtkghggngmpmigaaA49
set_option linter.all false
namespace Go.Proofs.Ytkghggngmpmigaa.rtFrees
open Go.ChangeShapes Go.WideShapes Go.ChangeAt Go.RowKit Go.WideMaps
theorem own : ownKnob Try.prog.godebug = none := by kernel_rfl
theorem laidOut : laidOutB Try.prog = true := by kernel_rfl
theorem under5 : Try.prog.underlying 5 = some (.int .u8) := by kernel_rfl
theorem under23 : Try.prog.underlying 23 = some (.int .u64) := by kernel_rfl
theorem under22 : Try.prog.underlying 22 = some (.int .u16) := by kernel_rfl
theorem cells22 : Try.prog.cellsOf 22 = 1 := by kernel_rfl
theorem under3 : Try.prog.underlying 3 = some (.int .i64) := by kernel_rfl
theorem cells5 : Try.prog.cellsOf 5 = 1 := by kernel_rfl
theorem cells23 : Try.prog.cellsOf 23 = 1 := by kernel_rfl
theorem walk (x0 : Int) (x1 : Int) (x2 : Int) (w : World) (hx0 : IntKind.u16.has x0) (hx1 : IntKind.u8.has x1) (hx2 : IntKind.u64.has x2) : Calls Try.prog 3 #[.int .u16 x0, .int .u8 x1, .int .u64 x2] w fun e w' => e = .returned (.bool true) /\ Below w.heap.size w w' := by
  have hbody := Go.X.b303 (by_ := x2) hx0 hx1
  exact Go.X.call_ro hbody (fun _ => none) (fun _ _ => rfl) ⟨fun id b h => (by cases h), fun id b id' b' l l' h => (by cases h)⟩ (fun id b h => (by cases h)) ⟨.int _ _, .int _ _, .int _ _, trivial⟩
set_option maxRecDepth 100000 in
theorem lifted (os : Os) (started : os.Started) (H : Type) (enc : TypeId × Value -> H) :
    ReturnsInHanded {} Try.checked os 3 .any (Rows.rtFreesSpec.pre6 enc Try.prog Try.f3 Rows.rtFreesRow.domain false) (Rows.rtFreesSpec.post enc Try.prog Try.f3 false true false false) := by
  refine returnsInHanded_of_change (C := Try.checked) own started (by kernel_rfl) Try.func3
    (ChangeSpec.witness6 (enc := enc) (C := Try.checked) false ⟨#[], #[.int .u16 0, .int .u8 0, .int .u64 0], []⟩ 8 (by kernel_rfl) (by kernel_rfl) (by kernel_rfl) (by kernel_rfl)) ?_
  intro W base args ds gs before hval0 hW hcnd _
  have hval : ∀ (j : Nat) t v, Try.f3.params[j]? = some t -> args[j]? = some v -> Value.okWide Try.prog W .any base t v := hval0
  have hW' := hW
  obtain ⟨p, q, hA0, hV, rfl, hfz, hnd⟩ := hW
  have hA : DataW.TrodAll enc Try.prog W 0 (fun _ => true) true Try.f3.params.toList args.toList ds p := hA0
  rw [Try.params3] at hA hval
  obtain ⟨v0, v1, v2, d0, d1, d2, p0, p1, p2, rfl, rfl, rfl, h0, h1, h2⟩ := trodAll_three hA
  obtain ⟨rfl, rfl⟩ := trodVars_none hV
  have k0 := h0
  have k1 := h1
  have k2 := h2
  have lt0 : ∀ x ∈ p0, x.block < W.heap.size := by obtain ⟨m, hm⟩ := k0; exact DataW.trod_lt m _ _ _ hm
  have lt1 : ∀ x ∈ p1, x.block < W.heap.size := by obtain ⟨m, hm⟩ := k1; exact DataW.trod_lt m _ _ _ hm
  have lt2 : ∀ x ∈ p2, x.block < W.heap.size := by obtain ⟨m, hm⟩ := k2; exact DataW.trod_lt m _ _ _ hm
  obtain ⟨x0, rfl, hx0⟩ := Go.X.okWide_has (k := .u16) (by kernel_rfl) (hval 0 22 v0 rfl rfl)
  obtain ⟨x1, rfl, hx1⟩ := Go.X.okWide_has (k := .u8) (by kernel_rfl) (hval 1 5 v1 rfl rfl)
  obtain ⟨x2, rfl, hx2⟩ := Go.X.okWide_has (k := .u64) (by kernel_rfl) (hval 2 23 v2 rfl rfl)
  clear hA0 hval0
  refine (walk x0 x1 x2 W hx0 hx1 hx2).mono fun e W' ⟨he, bel⟩ => ?_
  subst he
  exact ⟨_, rfl, _, _, _, [], _, [], hW', trodAll_mk1 (shut_bool Try.underlying4 _), (trodAll_cons_mk (Below.trod laidOut (by kernel_rfl) (of_decide_eq_true (by kernel_rfl)) k0 bel lt0) (trodAll_cons_mk (Below.trod laidOut (by kernel_rfl) (of_decide_eq_true (by kernel_rfl)) k1 bel lt1) (trodAll_cons_mk (Below.trod laidOut (by kernel_rfl) (of_decide_eq_true (by kernel_rfl)) k2 bel lt2) trodAll_mk0))), rfl, bel.frame _, fun h => by cases h⟩
theorem over : Rows.rtFreesRow.holds Try.pinned (OpenSpec.ofChange Rows.rtFreesSpec) :=
  OpenClaim.holds_of_wide 3 Try.f3 rfl rfl rfl rfl rfl rfl rfl ⟨rfl, rfl, rfl, rfl, rfl⟩ rfl rfl rfl rfl rfl (by kernel_rfl) Try.func3 (by kernel_rfl)
    (of_decide_eq_true (by kernel_rfl)) (by unfold Func.isWrapper; first | (rw [if_pos (by decide +kernel)]; kernel_rfl) | (rw [if_neg (by decide +kernel)]; exact ⟨rfl, rfl⟩))
    (fun os started H enc _ => lifted os started H enc)
theorem proved : Rows.RtFreesSaid := over
end Go.Proofs.Ytkghggngmpmigaa.rtFrees
