/- MachParts answers true, whatever is asked of it; it ends, and changes nothing of what was there. -/
import Derived.Test.YtnekegldodbgjaaG23
import Derived.Test.YtnekegldodbgjaaG45
set_option linter.all false
namespace Go.X
open Go Go.Proofs
theorem u64_uB {n : Int} (h : IntKind.u64.has n) : uB n = true := uB_iff.2 ⟨h.1, by have := h.2; rw [show IntKind.u64.max = 18446744073709551615 from rfl] at this; omega⟩
theorem u8_rng {n : Int} (h : IntKind.u8.has n) : 0 <= n /\ n < 256 := ⟨h.1, by have := h.2; rw [show IntKind.u8.max = 255 from rfl] at this; omega⟩
end Go.X
namespace Go.Proofs.Ytnekegldodbgjaa.machParts
open Go.ChangeShapes Go.WideShapes Go.ChangeAt Go.RowKit Go.WideMaps
theorem own : ownKnob Try.prog.godebug = none := by kernel_rfl
theorem laidOut : laidOutB Try.prog = true := by kernel_rfl
theorem under41 : Try.prog.underlying 41 = some (.slice 5) := by kernel_rfl
theorem under56 : Try.prog.underlying 56 = some (.slice 54) := by kernel_rfl
theorem under54 : Try.prog.underlying 54 = some (.int .u64) := by kernel_rfl
theorem under57 : Try.prog.underlying 57 = some (.array 2 5) := by kernel_rfl
theorem under5 : Try.prog.underlying 5 = some (.int .u8) := by kernel_rfl
theorem cells5 : Try.prog.cellsOf 5 = 1 := by kernel_rfl
theorem cells54 : Try.prog.cellsOf 54 = 1 := by kernel_rfl
theorem pair : ArrKey Try.prog 57 5 2 := ⟨under57, by kernel_rfl, by kernel_rfl, by kernel_rfl⟩
theorem walk (bi br : Bool) (a a2 : Addr) (L C R RC : Nat) (inp rg : Nat -> Int) (x y : Int) (w : World) (hb : bi = false -> L = 0) (hr : br = false -> R = 0) (hL : ∀ i, i < L -> w.cell? (a.add i) = some (.int .u8 (inp i)) /\ IntKind.u8.has (inp i))
    (hR : ∀ i, i < R -> w.cell? (a2.add i) = some (.int .u64 (rg i)) /\ IntKind.u64.has (rg i)) (hx : IntKind.u8.has x) (hy : IntKind.u8.has y) :
    Calls Try.prog 8 #[(bif bi then .slice (some a) L C else .slice none 0 0), (bif br then .slice (some a2) R RC else .slice none 0 0), .agg #[.int .u8 x, .int .u8 y]] w fun e w' => e = .returned (.bool true) /\ Below w.heap.size w w' := by
  obtain ⟨x, rfl⟩ : ∃ n : Nat, x = n := ⟨x.toNat, by have := (Go.X.u8_rng hx).1; omega⟩
  obtain ⟨y, rfl⟩ : ∃ n : Nat, y = n := ⟨y.toNat, by have := (Go.X.u8_rng hy).1; omega⟩
  let l : List Go.X.RoIn := (bif bi then [⟨40, a, L, .u8, inp⟩] else []) ++ (bif br then [⟨41, a2, R, .u64, rg⟩] else [])
  have hl : Go.X.mkH (l.map Go.X.RoIn.blk) = Go.X.mkH (Go.X.exIn bi br L inp R rg) := by cases bi <;> cases br <;> rfl
  have hcell : ∀ z ∈ l, ∀ i, i < z.n -> w.cell? (z.a.add i) = some (.int z.k (z.f i)) := by
    intro z hz i hi
    have : z = ⟨40, a, L, .u8, inp⟩ \/ z = ⟨41, a2, R, .u64, rg⟩ := by cases bi <;> cases br <;> simp [l] at hz <;> simp [hz]
    rcases this with rfl | rfl
    · exact (hL i hi).1
    · exact (hR i hi).1
  have hid : ∀ z ∈ l, z.id < 50 := by
    intro z hz
    have : z = ⟨40, a, L, .u8, inp⟩ \/ z = ⟨41, a2, R, .u64, rg⟩ := by cases bi <;> cases br <;> simp [l] at hz <;> simp [hz]
    rcases this with rfl | rfl
    · show 40 < 50; omega
    · show 41 < 50; omega
  refine Go.X.call_ro (Go.X.b8 (C := C) (RC := RC) hb hr (a := x) (b := y) (by have := (Go.X.u8_rng hx).2; omega) (by have := (Go.X.u8_rng hy).2; omega) (fun j hj => Go.X.u64_uB (hR j hj).2)) (Go.X.rhoOf l) (Go.X.dom_in hid) (hl ▸ Go.X.relH_in hcell) (fun id b h => Go.X.ro_in (l := l) (by rw [hl]; exact h)) ?_
  refine ⟨Go.X.v_in (a := a) fun h => ?_, Go.X.v_in (a := a2) fun h => ?_, .agg rfl (fun i v v' h h' => ?_), trivial⟩
  · subst h; cases br <;> rfl
  · subst h; cases bi <;> rfl
  · match i, h, h' with
    | 0, h, h' => cases h; cases h'; exact .int _ _
    | 1, h, h' => cases h; cases h'; exact .int _ _
set_option maxRecDepth 100000 in
theorem lifted (os : Os) (started : os.Started) (H : Type) (enc : TypeId × Value -> H) :
    ReturnsInHanded {} Try.checked os 8 .any (Rows.machPartsSpec.pre6 enc Try.prog Try.f8 Rows.machPartsRow.domain false) (Rows.machPartsSpec.post enc Try.prog Try.f8 false true false false) := by
  refine returnsInHanded_of_change (C := Try.checked) own started (by kernel_rfl) Try.func8
    (ChangeSpec.witness6 (enc := enc) (C := Try.checked) false ⟨#[], #[.slice none 0 0, .slice none 0 0, .agg #[.int .u8 0, .int .u8 0]], []⟩ 8 (by kernel_rfl) (by kernel_rfl) (by kernel_rfl) (by kernel_rfl)) ?_
  intro W base args ds gs before hval0 hW hcnd _
  have hval : ∀ (j : Nat) t v, Try.f8.params[j]? = some t -> args[j]? = some v -> Value.okWide Try.prog W .any base t v := hval0
  have hW' := hW
  obtain ⟨p, q, hA0, hV, rfl, hfz, hnd⟩ := hW
  have hA : DataW.TrodAll enc Try.prog W 0 (fun _ => true) true Try.f8.params.toList args.toList ds p := hA0
  rw [Try.params8] at hA hval
  obtain ⟨v0, v1, v2, d0, d1, d2, p0, p1, p2, rfl, rfl, rfl, h0, h1, h2⟩ := trodAll_three hA
  obtain ⟨rfl, rfl⟩ := trodVars_none hV
  have k0 := h0
  have k1 := h1
  have k2 := h2
  have lt0 : ∀ x ∈ p0, x.block < W.heap.size := by obtain ⟨m, hm⟩ := k0; exact DataW.trod_lt m _ _ _ hm
  have lt2 : ∀ x ∈ p2, x.block < W.heap.size := by obtain ⟨m, hm⟩ := k2; exact DataW.trod_lt m _ _ _ hm
  have lt1 : ∀ x ∈ p1, x.block < W.heap.size := by obtain ⟨m, hm⟩ := k1; exact DataW.trod_lt m _ _ _ hm
  obtain ⟨bi, a, L, C, inp, rfl, hb, _, hL⟩ := Go.X.slice_in under41 under5 cells5 (hval 0 41 v0 rfl rfl) h0
  obtain ⟨br, a2, R, RC, rg, rfl, hr, _, hR⟩ := Go.X.slice_in under56 under54 cells54 (hval 1 56 v1 rfl rfl) h1
  obtain ⟨x, y, rfl, _, _, hwx, hwy⟩ := open_pair pair under5 (hval 2 57 v2 rfl rfl) h2
  clear hA0 hval0
  refine (walk bi br a a2 L C R RC inp rg x y W hb hr hL hR (Go.X.lit_has hwx) (Go.X.lit_has hwy)).mono fun e W' ⟨he, bel⟩ => ?_
  subst he
  exact ⟨_, rfl, _, _, _, [], _, [], hW', trodAll_mk1 (shut_bool Try.underlying4 _), (trodAll_cons_mk (Below.trod laidOut (by kernel_rfl) (of_decide_eq_true (by kernel_rfl)) k0 bel lt0) (trodAll_cons_mk (Below.trod laidOut (by kernel_rfl) (of_decide_eq_true (by kernel_rfl)) k1 bel lt1) (trodAll_cons_mk (Below.trod laidOut (by kernel_rfl) (of_decide_eq_true (by kernel_rfl)) k2 bel lt2) trodAll_mk0))), rfl, bel.frame _, fun h => by cases h⟩
theorem over : Rows.machPartsRow.holds Try.pinned (OpenSpec.ofChange Rows.machPartsSpec) :=
  OpenClaim.holds_of_wide 8 Try.f8 rfl rfl rfl rfl rfl rfl rfl ⟨rfl, rfl, rfl, rfl, rfl⟩ rfl rfl rfl rfl rfl (by kernel_rfl) Try.func8 (by kernel_rfl)
    (of_decide_eq_true (by kernel_rfl)) (by unfold Func.isWrapper; first | (rw [if_pos (by decide +kernel)]; kernel_rfl) | (rw [if_neg (by decide +kernel)]; exact ⟨rfl, rfl⟩))
    (fun os started H enc _ => lifted os started H enc)
theorem proved : Rows.MachPartsSaid := over
end Go.Proofs.Ytnekegldodbgjaa.machParts
