/- MachNews answers true, whatever is asked of it; it ends, and changes nothing of what was there. -/
import Derived.Test.YtnekegldodbgjaaI23
import Derived.Test.YtnekegldodbgjaaI27
set_option linter.all false
namespace Go.Proofs.Ytnekegldodbgjaa.machNews
open Go.ChangeShapes Go.WideShapes Go.ChangeAt Go.RowKit Go.WideMaps
theorem own : ownKnob Try.prog.godebug = none := by kernel_rfl
theorem laidOut : laidOutB Try.prog = true := by kernel_rfl
theorem under5 : Try.prog.underlying 5 = some (.int .u8) := by kernel_rfl
theorem under54 : Try.prog.underlying 54 = some (.int .u64) := by kernel_rfl
theorem under3 : Try.prog.underlying 3 = some (.int .i64) := by kernel_rfl
theorem cells5 : Try.prog.cellsOf 5 = 1 := by kernel_rfl
theorem cells54 : Try.prog.cellsOf 54 = 1 := by kernel_rfl
theorem und0 : Try.prog.underlying 41 = some (.slice 5) := by kernel_rfl
theorem walk (b0 : Bool) (a0 : Addr) (L0 C0 : Nat) (f0 : Nat -> Int) (x1 : Int) (w : World) (hb0 : b0 = false -> L0 = 0) (hc0 : L0 <= C0) (hL0 : ∀ i, i < L0 -> w.cell? (a0.add i) = some (.int .u8 (f0 i)) /\ IntKind.u8.has (f0 i)) (hx1 : IntKind.i64.has x1) : Calls Try.prog 10 #[(bif b0 then .slice (some a0) L0 C0 else .slice none 0 0), .int .i64 x1] w fun e w' => e = .returned (.bool true) /\ Below w.heap.size w w' := by
  let l : List Go.X.RoIn := (bif b0 then [⟨40, a0, L0, .u8, f0⟩] else [])
  have hcase : ∀ z ∈ l, z = ⟨40, a0, L0, .u8, f0⟩ := by
    intro z hz
    cases b0 <;> simp [l] at hz <;> simp [hz]
  have hcell : ∀ z ∈ l, ∀ i, i < z.n -> w.cell? (z.a.add i) = some (.int z.k (z.f i)) := by
    intro z hz i hi
    rcases hcase z hz with rfl
    · exact (hL0 i hi).1
  have hid : ∀ z ∈ l, z.id < 50 := by
    intro z hz
    rcases hcase z hz with rfl
    · show 40 < 50; omega
  have hbody := Go.X.b10 (bi := b0) (L := L0) (C := C0) (inp := f0) hb0 (Go.X.i64_rng hx1)
  have hl : Go.X.mkH (l.map Go.X.RoIn.blk) = _ := show Go.X.mkH (l.map Go.X.RoIn.blk) = Go.X.preOf hbody by cases b0 <;> rfl
  refine Go.X.call_ro hbody (Go.X.rhoOf l) (Go.X.dom_in hid) (by have hr := Go.X.relH_in (P := Try.prog) hcell; rw [hl] at hr; exact hr) (fun id b h => Go.X.ro_in (l := l) (by rw [hl]; exact h)) ?_
  refine ⟨Go.X.v_in (a := a0) fun h => ?_, .int _ _, trivial⟩
  · subst h; rfl
set_option maxRecDepth 100000 in
theorem lifted (os : Os) (started : os.Started) (H : Type) (enc : TypeId × Value -> H) :
    ReturnsInHanded {} Try.checked os 10 .any (Rows.machNewsSpec.pre6 enc Try.prog Try.f10 Rows.machNewsRow.domain false) (Rows.machNewsSpec.post enc Try.prog Try.f10 false true false false) := by
  refine returnsInHanded_of_change (C := Try.checked) own started (by kernel_rfl) Try.func10
    (ChangeSpec.witness6 (enc := enc) (C := Try.checked) false ⟨#[], #[.slice none 0 0, .int .i64 0], []⟩ 8 (by kernel_rfl) (by kernel_rfl) (by kernel_rfl) (by kernel_rfl)) ?_
  intro W base args ds gs before hval0 hW hcnd _
  have hval : ∀ (j : Nat) t v, Try.f10.params[j]? = some t -> args[j]? = some v -> Value.okWide Try.prog W .any base t v := hval0
  have hW' := hW
  obtain ⟨p, q, hA0, hV, rfl, hfz, hnd⟩ := hW
  have hA : DataW.TrodAll enc Try.prog W 0 (fun _ => true) true Try.f10.params.toList args.toList ds p := hA0
  rw [Try.params10] at hA hval
  obtain ⟨v0, v1, d0, d1, p0, p1, rfl, rfl, rfl, h0, h1⟩ := trodAll_two hA
  obtain ⟨rfl, rfl⟩ := trodVars_none hV
  have k0 := h0
  have k1 := h1
  have lt0 : ∀ x ∈ p0, x.block < W.heap.size := by obtain ⟨m, hm⟩ := k0; exact DataW.trod_lt m _ _ _ hm
  have lt1 : ∀ x ∈ p1, x.block < W.heap.size := by obtain ⟨m, hm⟩ := k1; exact DataW.trod_lt m _ _ _ hm
  obtain ⟨b0, a0, L0, C0, f0, rfl, hb0, hc0, hL0⟩ := Go.X.slice_in und0 under5 cells5 (hval 0 41 v0 rfl rfl) h0
  obtain ⟨x1, rfl, hx1⟩ := Go.X.okWide_has (k := .i64) (by kernel_rfl) (hval 1 3 v1 rfl rfl)
  clear hA0 hval0
  refine (walk b0 a0 L0 C0 f0 x1 W hb0 hc0 hL0 hx1).mono fun e W' ⟨he, bel⟩ => ?_
  subst he
  exact ⟨_, rfl, _, _, _, [], _, [], hW', trodAll_mk1 (shut_bool Try.underlying4 _), (trodAll_cons_mk (Below.trod laidOut (by kernel_rfl) (of_decide_eq_true (by kernel_rfl)) k0 bel lt0) (trodAll_cons_mk (Below.trod laidOut (by kernel_rfl) (of_decide_eq_true (by kernel_rfl)) k1 bel lt1) trodAll_mk0)), rfl, bel.frame _, fun h => by cases h⟩
theorem over : Rows.machNewsRow.holds Try.pinned (OpenSpec.ofChange Rows.machNewsSpec) :=
  OpenClaim.holds_of_wide 10 Try.f10 rfl rfl rfl rfl rfl rfl rfl ⟨rfl, rfl, rfl, rfl, rfl⟩ rfl rfl rfl rfl rfl (by kernel_rfl) Try.func10 (by kernel_rfl)
    (of_decide_eq_true (by kernel_rfl)) (by unfold Func.isWrapper; first | (rw [if_pos (by decide +kernel)]; kernel_rfl) | (rw [if_neg (by decide +kernel)]; exact ⟨rfl, rfl⟩))
    (fun os started H enc _ => lifted os started H enc)
theorem proved : Rows.MachNewsSaid := over
end Go.Proofs.Ytnekegldodbgjaa.machNews
