/- RtShadows: proved that hauberklaw18.RtShadows answers true, whatever it is given, and leaves that as it was; there are no conditions. -/
import Derived.Test.YtkghggngmpmigaaC29
import Derived.Test.YtkghggngmpmigaaC50
set_option linter.all false
namespace Go.Proofs.Ytkghggngmpmigaa.rtShadows
open Go.ChangeShapes Go.WideShapes Go.ChangeAt Go.RowKit Go.WideMaps
theorem own : ownKnob Try.prog.godebug = none := by kernel_rfl
theorem laidOut : laidOutB Try.prog = true := by kernel_rfl
theorem under5 : Try.prog.underlying 5 = some (.int .u8) := by kernel_rfl
theorem under23 : Try.prog.underlying 23 = some (.int .u64) := by kernel_rfl
theorem under22 : Try.prog.underlying 22 = some (.int .u16) := by kernel_rfl
theorem cells22 : Try.prog.cellsOf 22 = 1 := by kernel_rfl
theorem under3 : Try.prog.underlying 3 = some (.int .i64) := by kernel_rfl
theorem cells5 : Try.prog.cellsOf 5 = 1 := by kernel_rfl
theorem cells23 : Try.prog.cellsOf 23 = 1 := by kernel_rfl
theorem und0 : Try.prog.underlying 36 = some (.slice 22) := by kernel_rfl
theorem quad1 : ArrKey Try.prog 37 23 4 := ⟨by kernel_rfl, by kernel_rfl, by kernel_rfl, by kernel_rfl⟩
theorem walk (b0 : Bool) (a0 : Addr) (L0 C0 : Nat) (f0 : Nat -> Int) (v1 : Nat -> Int) (x2 : Int) (w : World) (hb0 : b0 = false -> L0 = 0) (hc0 : L0 <= C0) (hL0 : ∀ i, i < L0 -> w.cell? (a0.add i) = some (.int .u16 (f0 i)) /\ IntKind.u16.has (f0 i)) (hv1 : ∀ j, j < 4 -> IntKind.u64.has (v1 j)) (hx2 : IntKind.u8.has x2) : Calls Try.prog 5 #[(bif b0 then .slice (some a0) L0 C0 else .slice none 0 0), .agg #[.int .u64 (v1 0), .int .u64 (v1 1), .int .u64 (v1 2), .int .u64 (v1 3)], .int .u8 x2] w fun e w' => e = .returned (.bool true) /\ Below w.heap.size w w' := by
  let l : List Go.X.RoIn := (bif b0 then [⟨40, a0, L0, .u16, f0⟩] else [])
  have hcase : ∀ z ∈ l, z = ⟨40, a0, L0, .u16, f0⟩ := by
    intro z hz
    cases b0 <;> simp [l] at hz <;> simp [hz]
  have hcell : ∀ z ∈ l, ∀ i, i < z.n -> w.cell? (z.a.add i) = some (.int z.k (z.f i)) := by
    intro z hz i hi
    rcases hcase z hz with rfl
    · exact (hL0 i hi).1
  have hid : ∀ z ∈ l, z.id < 50 := by
    intro z hz
    rcases hcase z hz with rfl
    · show 40 < 50; omega
  have hbody := Go.X.b305 (b := b0) (L := L0) (C := C0) (f := f0) (v := v1) (c := x2) hb0 (fun j hj => Go.X.u16_rg (hL0 j hj).2) (fun j hj => Go.X.uB_hs (hv1 j hj)) (Go.X.u8_rg hx2)
  have hl : Go.X.mkH (l.map Go.X.RoIn.blk) = _ := show Go.X.mkH (l.map Go.X.RoIn.blk) = Go.X.preOf hbody by cases b0 <;> rfl
  refine Go.X.call_ro hbody (Go.X.rhoOf l) (Go.X.dom_in hid) (by have hr := Go.X.relH_in (P := Try.prog) hcell; rw [hl] at hr; exact hr) (fun id b h => Go.X.ro_in (l := l) (by rw [hl]; exact h)) ?_
  refine ⟨Go.X.v_in (a := a0) fun h => ?_, .agg rfl (fun i v v' h h' => by match i, h, h' with | 0, h, h' => cases h; cases h'; exact .int _ _ | 1, h, h' => cases h; cases h'; exact .int _ _ | 2, h, h' => cases h; cases h'; exact .int _ _ | 3, h, h' => cases h; cases h'; exact .int _ _), .int _ _, trivial⟩
  · subst h; rfl
set_option maxRecDepth 100000 in
theorem lifted (os : Os) (started : os.Started) (H : Type) (enc : TypeId × Value -> H) :
    ReturnsInHanded {} Try.checked os 5 .any (Rows.rtShadowsSpec.pre6 enc Try.prog Try.f5 Rows.rtShadowsRow.domain false) (Rows.rtShadowsSpec.post enc Try.prog Try.f5 false true false false) := by
  refine returnsInHanded_of_change (C := Try.checked) own started (by kernel_rfl) Try.func5
    (ChangeSpec.witness6 (enc := enc) (C := Try.checked) false ⟨#[], #[.slice none 0 0, .agg #[.int .u64 0, .int .u64 0, .int .u64 0, .int .u64 0], .int .u8 0], []⟩ 8 (by kernel_rfl) (by kernel_rfl) (by kernel_rfl) (by kernel_rfl)) ?_
  intro W base args ds gs before hval0 hW hcnd _
  have hval : ∀ (j : Nat) t v, Try.f5.params[j]? = some t -> args[j]? = some v -> Value.okWide Try.prog W .any base t v := hval0
  have hW' := hW
  obtain ⟨p, q, hA0, hV, rfl, hfz, hnd⟩ := hW
  have hA : DataW.TrodAll enc Try.prog W 0 (fun _ => true) true Try.f5.params.toList args.toList ds p := hA0
  rw [Try.params5] at hA hval
  obtain ⟨v0, v1, v2, d0, d1, d2, p0, p1, p2, rfl, rfl, rfl, h0, h1, h2⟩ := trodAll_three hA
  obtain ⟨rfl, rfl⟩ := trodVars_none hV
  have k0 := h0
  have k1 := h1
  have k2 := h2
  have lt0 : ∀ x ∈ p0, x.block < W.heap.size := by obtain ⟨m, hm⟩ := k0; exact DataW.trod_lt m _ _ _ hm
  have lt1 : ∀ x ∈ p1, x.block < W.heap.size := by obtain ⟨m, hm⟩ := k1; exact DataW.trod_lt m _ _ _ hm
  have lt2 : ∀ x ∈ p2, x.block < W.heap.size := by obtain ⟨m, hm⟩ := k2; exact DataW.trod_lt m _ _ _ hm
  obtain ⟨b0, a0, L0, C0, f0, rfl, hb0, hc0, hL0⟩ := Go.X.slice_in und0 under22 cells22 (hval 0 36 v0 rfl rfl) h0
  obtain ⟨v1, rfl, _, _, hv1⟩ := Go.X.open4 quad1 under23 (hval 1 37 v1 rfl rfl) h1
  obtain ⟨x2, rfl, hx2⟩ := Go.X.okWide_has (k := .u8) (by kernel_rfl) (hval 2 5 v2 rfl rfl)
  clear hA0 hval0
  refine (walk b0 a0 L0 C0 f0 v1 x2 W hb0 hc0 hL0 (fun j hj => Go.X.lit_has (hv1 j hj)) hx2).mono fun e W' ⟨he, bel⟩ => ?_
  subst he
  exact ⟨_, rfl, _, _, _, [], _, [], hW', trodAll_mk1 (shut_bool Try.underlying4 _), (trodAll_cons_mk (Below.trod laidOut (by kernel_rfl) (of_decide_eq_true (by kernel_rfl)) k0 bel lt0) (trodAll_cons_mk (Below.trod laidOut (by kernel_rfl) (of_decide_eq_true (by kernel_rfl)) k1 bel lt1) (trodAll_cons_mk (Below.trod laidOut (by kernel_rfl) (of_decide_eq_true (by kernel_rfl)) k2 bel lt2) trodAll_mk0))), rfl, bel.frame _, fun h => by cases h⟩
theorem over : Rows.rtShadowsRow.holds Try.pinned (OpenSpec.ofChange Rows.rtShadowsSpec) :=
  OpenClaim.holds_of_wide 5 Try.f5 rfl rfl rfl rfl rfl rfl rfl ⟨rfl, rfl, rfl, rfl, rfl⟩ rfl rfl rfl rfl rfl (by kernel_rfl) Try.func5 (by kernel_rfl)
    (of_decide_eq_true (by kernel_rfl)) (by unfold Func.isWrapper; first | (rw [if_pos (by decide +kernel)]; kernel_rfl) | (rw [if_neg (by decide +kernel)]; exact ⟨rfl, rfl⟩))
    (fun os started H enc _ => lifted os started H enc)
theorem proved : Rows.RtShadowsSaid := over
end Go.Proofs.Ytkghggngmpmigaa.rtShadows
