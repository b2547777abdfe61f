/- MachRuns answers true, whatever is asked of it; it ends, and changes nothing of what was there. -/
import Derived.Test.YtnekegldodbgjaaM23
import Derived.Test.YtnekegldodbgjaaM53
set_option linter.all false
namespace Go.Proofs.Ytnekegldodbgjaa.machRuns
open Go.ChangeShapes Go.WideShapes Go.ChangeAt Go.RowKit Go.WideMaps
theorem own : ownKnob Try.prog.godebug = none := by kernel_rfl
theorem laidOut : laidOutB Try.prog = true := by kernel_rfl
theorem under41 : Try.prog.underlying 41 = some (.slice 5) := by kernel_rfl
theorem under56 : Try.prog.underlying 56 = some (.slice 54) := by kernel_rfl
theorem under54 : Try.prog.underlying 54 = some (.int .u64) := by kernel_rfl
theorem under77 : Try.prog.underlying 77 = some (.array 3 3) := by kernel_rfl
theorem cells77 : Try.prog.cellsOf 77 = 3 := by kernel_rfl
theorem cells3 : Try.prog.cellsOf 3 = 1 := by kernel_rfl
theorem under5 : Try.prog.underlying 5 = some (.int .u8) := by kernel_rfl
theorem cells5 : Try.prog.cellsOf 5 = 1 := by kernel_rfl
theorem cells54 : Try.prog.cellsOf 54 = 1 := by kernel_rfl
theorem open_three {H : Type} {enc : TypeId × Value -> H} {P : Program} {k e : TypeId} {q : IntKind} {W : World} {base : Nat} {sp : Nat -> Bool} {held : Bool} (hu : P.underlying k = some (.array 3 e)) (hs : P.cellsOf k = 3) (h1 : P.cellsOf e = 1) (he : P.underlying e = some (.int q))
    {r : Reach} {b0 : Nat} {v : Value} {d : DataW H} {ps : List MemPlace} (hval : Value.okWide P W r b0 k v) (hd : DataW.Trod enc P W base sp held k v d ps) : ∃ a b c : Int, v = .agg #[.int q a, .int q b, .int q c] := by
  simp only [Value.okWide, hu] at hval
  obtain ⟨cs, g1, g2, _⟩ := hval
  rw [hs] at g2
  obtain ⟨l⟩ := cs
  match l, g2 with
  | [c0, c1, c2], _ =>
    subst g1
    obtain ⟨fuel, hf⟩ := hd
    cases fuel with
    | zero => simp [DataW.trod] at hf
    | succ n =>
      rw [DataW.trod_step] at hf
      unfold DataW.trodStep at hf
      simp only [hu, Value.cells] at hf
      rw [if_pos (by rw [hs]; rfl)] at hf
      simp only [Option.map_eq_some_iff] at hf
      obtain ⟨xs, hx, e1⟩ := hf
      rw [show List.range 3 = [0, 1, 2] from rfl, List.mapM_cons, List.mapM_cons, List.mapM_cons, List.mapM_nil] at hx
      simp only [bind, Option.bind_eq_some_iff, pure, Option.some.injEq, h1] at hx
      obtain ⟨y0, t0, _, ⟨y1, t1, _, ⟨y2, t2, _, rfl, rfl⟩, rfl⟩, rfl⟩ := hx
      obtain ⟨a, ea, _⟩ := DataW.trod_int he t0
      obtain ⟨b, eb, _⟩ := DataW.trod_int he t1
      obtain ⟨c, ec, _⟩ := DataW.trod_int he t2
      simp at ea eb ec
      subst ea; subst eb; subst ec
      exact ⟨a, b, c, rfl⟩
theorem walk (bi br : Bool) (a a2 : Addr) (L C R RC : Nat) (inp rg : Nat -> Int) (x y z : Int) (w : World) (hb : bi = false -> L = 0) (hr : br = false -> R = 0) (hL : ∀ i, i < L -> w.cell? (a.add i) = some (.int .u8 (inp i)) /\ IntKind.u8.has (inp i))
    (hR : ∀ i, i < R -> w.cell? (a2.add i) = some (.int .u64 (rg i)) /\ IntKind.u64.has (rg i)) :
    Calls Try.prog 11 #[(bif bi then .slice (some a) L C else .slice none 0 0), (bif br then .slice (some a2) R RC else .slice none 0 0), .agg #[.int .i64 x, .int .i64 y, .int .i64 z]] w fun e w' => e = .returned (.bool true) /\ Below w.heap.size w w' := by
  let l : List Go.X.RoIn := (bif bi then [⟨40, a, L, .u8, inp⟩] else []) ++ (bif br then [⟨41, a2, R, .u64, rg⟩] else [])
  have hl : Go.X.mkH (l.map Go.X.RoIn.blk) = Go.X.mkH (Go.X.exIn bi br L inp R rg) := by cases bi <;> cases br <;> rfl
  have hcell : ∀ z ∈ l, ∀ i, i < z.n -> w.cell? (z.a.add i) = some (.int z.k (z.f i)) := by
    intro z hz i hi
    have : z = ⟨40, a, L, .u8, inp⟩ \/ z = ⟨41, a2, R, .u64, rg⟩ := by cases bi <;> cases br <;> simp [l] at hz <;> simp [hz]
    rcases this with rfl | rfl
    · exact (hL i hi).1
    · exact (hR i hi).1
  have hid : ∀ z ∈ l, z.id < 50 := by
    intro z hz
    have : z = ⟨40, a, L, .u8, inp⟩ \/ z = ⟨41, a2, R, .u64, rg⟩ := by cases bi <;> cases br <;> simp [l] at hz <;> simp [hz]
    rcases this with rfl | rfl
    · show 40 < 50; omega
    · show 41 < 50; omega
  refine Go.X.call_ro (Go.X.b11 (a := x) (b := y) (c := z) (MC := C) (RC := RC) hb hr (fun j hj => Go.X.u8_rng (hL j hj).2) (fun j hj => Go.X.u64_uB (hR j hj).2)) (Go.X.rhoOf l) (Go.X.dom_in hid) (hl ▸ Go.X.relH_in hcell) (fun id b h => Go.X.ro_in (l := l) (by rw [hl]; exact h)) ?_
  refine ⟨Go.X.v_in (a := a) fun h => ?_, Go.X.v_in (a := a2) fun h => ?_, .agg rfl (fun i v v' h h' => ?_), trivial⟩
  · subst h; cases br <;> rfl
  · subst h; cases bi <;> rfl
  · match i, h, h' with
    | 0, h, h' => cases h; cases h'; exact .int _ _
    | 1, h, h' => cases h; cases h'; exact .int _ _
    | 2, h, h' => cases h; cases h'; exact .int _ _
set_option maxRecDepth 100000 in
theorem lifted (os : Os) (started : os.Started) (H : Type) (enc : TypeId × Value -> H) :
    ReturnsInHanded {} Try.checked os 11 .any (Rows.machRunsSpec.pre6 enc Try.prog Try.f11 Rows.machRunsRow.domain false) (Rows.machRunsSpec.post enc Try.prog Try.f11 false true false false) := by
  refine returnsInHanded_of_change (C := Try.checked) own started (by kernel_rfl) Try.func11
    (ChangeSpec.witness6 (enc := enc) (C := Try.checked) false ⟨#[], #[.slice none 0 0, .slice none 0 0, .agg #[.int .i64 0, .int .i64 0, .int .i64 0]], []⟩ 8 (by kernel_rfl) (by kernel_rfl) (by kernel_rfl) (by kernel_rfl)) ?_
  intro W base args ds gs before hval0 hW hcnd _
  have hval : ∀ (j : Nat) t v, Try.f11.params[j]? = some t -> args[j]? = some v -> Value.okWide Try.prog W .any base t v := hval0
  have hW' := hW
  obtain ⟨p, q, hA0, hV, rfl, hfz, hnd⟩ := hW
  have hA : DataW.TrodAll enc Try.prog W 0 (fun _ => true) true Try.f11.params.toList args.toList ds p := hA0
  rw [Try.params11] at hA hval
  obtain ⟨v0, v1, v2, d0, d1, d2, p0, p1, p2, rfl, rfl, rfl, h0, h1, h2⟩ := trodAll_three hA
  obtain ⟨rfl, rfl⟩ := trodVars_none hV
  have k0 := h0
  have k1 := h1
  have k2 := h2
  have lt0 : ∀ x ∈ p0, x.block < W.heap.size := by obtain ⟨m, hm⟩ := k0; exact DataW.trod_lt m _ _ _ hm
  have lt2 : ∀ x ∈ p2, x.block < W.heap.size := by obtain ⟨m, hm⟩ := k2; exact DataW.trod_lt m _ _ _ hm
  have lt1 : ∀ x ∈ p1, x.block < W.heap.size := by obtain ⟨m, hm⟩ := k1; exact DataW.trod_lt m _ _ _ hm
  obtain ⟨bi, a, L, C, inp, rfl, hb, _, hL⟩ := Go.X.slice_in under41 under5 cells5 (hval 0 41 v0 rfl rfl) h0
  obtain ⟨br, a2, R, RC, rg, rfl, hr, _, hR⟩ := Go.X.slice_in under56 under54 cells54 (hval 1 56 v1 rfl rfl) h1
  obtain ⟨x, y, z, rfl⟩ := open_three under77 cells77 cells3 Try.underlying3 (hval 2 77 v2 rfl rfl) h2
  clear hA0 hval0
  refine (walk bi br a a2 L C R RC inp rg x y z W hb hr hL hR).mono fun e W' ⟨he, bel⟩ => ?_
  subst he
  exact ⟨_, rfl, _, _, _, [], _, [], hW', trodAll_mk1 (shut_bool Try.underlying4 _), (trodAll_cons_mk (Below.trod laidOut (by kernel_rfl) (of_decide_eq_true (by kernel_rfl)) k0 bel lt0) (trodAll_cons_mk (Below.trod laidOut (by kernel_rfl) (of_decide_eq_true (by kernel_rfl)) k1 bel lt1) (trodAll_cons_mk (Below.trod laidOut (by kernel_rfl) (of_decide_eq_true (by kernel_rfl)) k2 bel lt2) trodAll_mk0))), rfl, bel.frame _, fun h => by cases h⟩
theorem over : Rows.machRunsRow.holds Try.pinned (OpenSpec.ofChange Rows.machRunsSpec) :=
  OpenClaim.holds_of_wide 11 Try.f11 rfl rfl rfl rfl rfl rfl rfl ⟨rfl, rfl, rfl, rfl, rfl⟩ rfl rfl rfl rfl rfl (by kernel_rfl) Try.func11 (by kernel_rfl)
    (of_decide_eq_true (by kernel_rfl)) (by unfold Func.isWrapper; first | (rw [if_pos (by decide +kernel)]; kernel_rfl) | (rw [if_neg (by decide +kernel)]; exact ⟨rfl, rfl⟩))
    (fun os started H enc _ => lifted os started H enc)
theorem proved : Rows.MachRunsSaid := over
end Go.Proofs.Ytnekegldodbgjaa.machRuns
