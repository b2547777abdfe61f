/- MachSteps answers true, whatever is asked of it; it ends, and changes nothing of what was there. -/
import Derived.Test.YtnekegldodbgjaaL23
import Derived.Test.YtnekegldodbgjaaL53
set_option linter.all false
namespace Go.Proofs.Ytnekegldodbgjaa.machSteps
open Go.ChangeShapes Go.WideShapes Go.ChangeAt Go.RowKit Go.WideMaps
theorem own : ownKnob Try.prog.godebug = none := by kernel_rfl
theorem laidOut : laidOutB Try.prog = true := by kernel_rfl
theorem under41 : Try.prog.underlying 41 = some (.slice 5) := by kernel_rfl
theorem under56 : Try.prog.underlying 56 = some (.slice 54) := by kernel_rfl
theorem under54 : Try.prog.underlying 54 = some (.int .u64) := by kernel_rfl
theorem under5 : Try.prog.underlying 5 = some (.int .u8) := by kernel_rfl
theorem cells5 : Try.prog.cellsOf 5 = 1 := by kernel_rfl
theorem cells54 : Try.prog.cellsOf 54 = 1 := by kernel_rfl
theorem cells26 : Try.prog.cellsOf 26 = 5 := by kernel_rfl
theorem cells3 : Try.prog.cellsOf 3 = 1 := by kernel_rfl
theorem five {α : Type} {l : List α} (h : l.length = 5) : ∃ a b c d e, l = [a, b, c, d, e] := by
  match l, h with
  | [a, b, c, d, e], _ => exact ⟨a, b, c, d, e, rfl⟩
theorem ins_row {H : Type} {enc : TypeId × Value -> H} {w : World} {base : Nat} {spare : Nat -> Bool} {held : Bool} {n : Nat} {cs : List Value} {x : DataW H × List MemPlace} (h : DataW.trod enc Try.prog w base spare held n 26 cs = some x) :
    ∃ i : Go.X.Ins, cs = i.row := by
  obtain ⟨xs, n', _, _, hl, hxl, hf⟩ := DataW.trod_struct Try.underlying26 h
  have hl : cs.length = 5 := hl.trans cells26
  obtain ⟨c0, c1, c2, c3, c4, rfl⟩ := five hl
  obtain ⟨y0, y1, y2, y3, y4, rfl⟩ := five (show xs.length = 5 from hxl)
  · clear hl hxl h
    have t0 : DataW.trod enc Try.prog w base spare held n' 3 (([c0, c1, c2, c3, c4].drop 0).take (Try.prog.cellsOf 3)) = some y0 := hf 0 _ rfl
    have t1 : DataW.trod enc Try.prog w base spare held n' 3 (([c0, c1, c2, c3, c4].drop 1).take (Try.prog.cellsOf 3)) = some y1 := hf 1 _ rfl
    have t2 : DataW.trod enc Try.prog w base spare held n' 3 (([c0, c1, c2, c3, c4].drop 2).take (Try.prog.cellsOf 3)) = some y2 := hf 2 _ rfl
    have t3 : DataW.trod enc Try.prog w base spare held n' 3 (([c0, c1, c2, c3, c4].drop 3).take (Try.prog.cellsOf 3)) = some y3 := hf 3 _ rfl
    have t4 : DataW.trod enc Try.prog w base spare held n' 3 (([c0, c1, c2, c3, c4].drop 4).take (Try.prog.cellsOf 3)) = some y4 := hf 4 _ rfl
    rw [cells3] at t0 t1 t2 t3 t4
    obtain ⟨a0, e0, _⟩ := DataW.trod_int Try.underlying3 t0
    obtain ⟨a1, e1, _⟩ := DataW.trod_int Try.underlying3 t1
    obtain ⟨a2, e2, _⟩ := DataW.trod_int Try.underlying3 t2
    obtain ⟨a3, e3, _⟩ := DataW.trod_int Try.underlying3 t3
    obtain ⟨a4, e4, _⟩ := DataW.trod_int Try.underlying3 t4
    refine ⟨⟨a0, a1, a2, a3, a4⟩, ?_⟩
    have g0 : c0 = .int .i64 a0 := (List.cons.inj (show [c0] = [Value.int .i64 a0] from e0)).1
    have g1 : c1 = .int .i64 a1 := (List.cons.inj (show [c1] = [Value.int .i64 a1] from e1)).1
    have g2 : c2 = .int .i64 a2 := (List.cons.inj (show [c2] = [Value.int .i64 a2] from e2)).1
    have g3 : c3 = .int .i64 a3 := (List.cons.inj (show [c3] = [Value.int .i64 a3] from e3)).1
    have g4 : c4 = .int .i64 a4 := (List.cons.inj (show [c4] = [Value.int .i64 a4] from e4)).1
    rw [g0, g1, g2, g3, g4]; rfl
theorem walk (bi br : Bool) (a a2 : Addr) (L C R RC : Nat) (inp rg : Nat -> Int) (op rd rs1 rs2 imm : Int) (w : World) (hb : bi = false -> L = 0) (hr : br = false -> R = 0) (hL : ∀ i, i < L -> w.cell? (a.add i) = some (.int .u8 (inp i)) /\ IntKind.u8.has (inp i))
    (hR : ∀ i, i < R -> w.cell? (a2.add i) = some (.int .u64 (rg i)) /\ IntKind.u64.has (rg i)) :
    Calls Try.prog 13 #[.agg #[.int .i64 op, .int .i64 rd, .int .i64 rs1, .int .i64 rs2, .int .i64 imm], (bif br then .slice (some a2) R RC else .slice none 0 0), (bif bi then .slice (some a) L C else .slice none 0 0)] w fun e w' => e = .returned (.bool true) /\ Below w.heap.size w w' := by
  let l : List Go.X.RoIn := (bif bi then [⟨40, a, L, .u8, inp⟩] else []) ++ (bif br then [⟨41, a2, R, .u64, rg⟩] else [])
  have hl : Go.X.mkH (l.map Go.X.RoIn.blk) = Go.X.mkH (Go.X.exIn bi br L inp R rg) := by cases bi <;> cases br <;> rfl
  have hcell : ∀ z ∈ l, ∀ i, i < z.n -> w.cell? (z.a.add i) = some (.int z.k (z.f i)) := by
    intro z hz i hi
    have : z = ⟨40, a, L, .u8, inp⟩ \/ z = ⟨41, a2, R, .u64, rg⟩ := by cases bi <;> cases br <;> simp [l] at hz <;> simp [hz]
    rcases this with rfl | rfl
    · exact (hL i hi).1
    · exact (hR i hi).1
  have hid : ∀ z ∈ l, z.id < 50 := by
    intro z hz
    have : z = ⟨40, a, L, .u8, inp⟩ \/ z = ⟨41, a2, R, .u64, rg⟩ := by cases bi <;> cases br <;> simp [l] at hz <;> simp [hz]
    rcases this with rfl | rfl
    · show 40 < 50; omega
    · show 41 < 50; omega
  refine Go.X.call_ro (Go.X.b13 (op := op) (rd := rd) (rs1 := rs1) (rs2 := rs2) (imm := imm) (MC := C) (RC := RC) hb hr (fun j hj => Go.X.u8_rng (hL j hj).2) (fun j hj => Go.X.u64_uB (hR j hj).2)) (Go.X.rhoOf l) (Go.X.dom_in hid) (hl ▸ Go.X.relH_in hcell) (fun id b h => Go.X.ro_in (l := l) (by rw [hl]; exact h)) ?_
  refine ⟨.agg rfl (fun i v v' h h' => ?_), Go.X.v_in (a := a2) fun h => ?_, Go.X.v_in (a := a) fun h => ?_, trivial⟩
  · match i, h, h' with
    | 0, h, h' => cases h; cases h'; exact .int _ _
    | 1, h, h' => cases h; cases h'; exact .int _ _
    | 2, h, h' => cases h; cases h'; exact .int _ _
    | 3, h, h' => cases h; cases h'; exact .int _ _
    | 4, h, h' => cases h; cases h'; exact .int _ _
  · subst h; cases bi <;> rfl
  · subst h; cases br <;> rfl
set_option maxRecDepth 100000 in
theorem lifted (os : Os) (started : os.Started) (H : Type) (enc : TypeId × Value -> H) :
    ReturnsInHanded {} Try.checked os 13 .any (Rows.machStepsSpec.pre6 enc Try.prog Try.f13 Rows.machStepsRow.domain false) (Rows.machStepsSpec.post enc Try.prog Try.f13 false true false false) := by
  refine returnsInHanded_of_change (C := Try.checked) own started (by kernel_rfl) Try.func13
    (ChangeSpec.witness6 (enc := enc) (C := Try.checked) false ⟨#[], #[.agg #[.int .i64 0, .int .i64 0, .int .i64 0, .int .i64 0, .int .i64 0], .slice none 0 0, .slice none 0 0], []⟩ 8 (by kernel_rfl) (by kernel_rfl) (by kernel_rfl) (by kernel_rfl)) ?_
  intro W base args ds gs before hval0 hW hcnd _
  have hval : ∀ (j : Nat) t v, Try.f13.params[j]? = some t -> args[j]? = some v -> Value.okWide Try.prog W .any base t v := hval0
  have hW' := hW
  obtain ⟨p, q, hA0, hV, rfl, hfz, hnd⟩ := hW
  have hA : DataW.TrodAll enc Try.prog W 0 (fun _ => true) true Try.f13.params.toList args.toList ds p := hA0
  rw [Try.params13] at hA hval
  obtain ⟨v0, v1, v2, d0, d1, d2, p0, p1, p2, rfl, rfl, rfl, h0, h1, h2⟩ := trodAll_three hA
  obtain ⟨rfl, rfl⟩ := trodVars_none hV
  have k0 := h0
  have k1 := h1
  have k2 := h2
  have lt0 : ∀ x ∈ p0, x.block < W.heap.size := by obtain ⟨m, hm⟩ := k0; exact DataW.trod_lt m _ _ _ hm
  have lt2 : ∀ x ∈ p2, x.block < W.heap.size := by obtain ⟨m, hm⟩ := k2; exact DataW.trod_lt m _ _ _ hm
  have lt1 : ∀ x ∈ p1, x.block < W.heap.size := by obtain ⟨m, hm⟩ := k1; exact DataW.trod_lt m _ _ _ hm
  obtain ⟨cs, rfl, hcs⟩ := okWide_struct Try.underlying26 (hval 0 26 v0 rfl rfl)
  obtain ⟨fu, hfu⟩ := h0
  obtain ⟨ii, hii⟩ := ins_row hfu
  obtain rfl : cs = #[.int .i64 ii.op, .int .i64 ii.rd, .int .i64 ii.rs1, .int .i64 ii.rs2, .int .i64 ii.imm] := Array.ext' hii
  obtain ⟨br, a2, R, RC, rg, rfl, hr, _, hR⟩ := Go.X.slice_in under56 under54 cells54 (hval 1 56 v1 rfl rfl) h1
  obtain ⟨bi, a, L, C, inp, rfl, hb, _, hL⟩ := Go.X.slice_in under41 under5 cells5 (hval 2 41 v2 rfl rfl) h2
  clear hA0 hval0
  refine (walk bi br a a2 L C R RC inp rg _ _ _ _ _ W hb hr hL hR).mono fun e W' ⟨he, bel⟩ => ?_
  subst he
  exact ⟨_, rfl, _, _, _, [], _, [], hW', trodAll_mk1 (shut_bool Try.underlying4 _), (trodAll_cons_mk (Below.trod laidOut (by kernel_rfl) (of_decide_eq_true (by kernel_rfl)) k0 bel lt0) (trodAll_cons_mk (Below.trod laidOut (by kernel_rfl) (of_decide_eq_true (by kernel_rfl)) k1 bel lt1) (trodAll_cons_mk (Below.trod laidOut (by kernel_rfl) (of_decide_eq_true (by kernel_rfl)) k2 bel lt2) trodAll_mk0))), rfl, bel.frame _, fun h => by cases h⟩
theorem over : Rows.machStepsRow.holds Try.pinned (OpenSpec.ofChange Rows.machStepsSpec) :=
  OpenClaim.holds_of_wide 13 Try.f13 rfl rfl rfl rfl rfl rfl rfl ⟨rfl, rfl, rfl, rfl, rfl⟩ rfl rfl rfl rfl rfl (by kernel_rfl) Try.func13 (by kernel_rfl)
    (of_decide_eq_true (by kernel_rfl)) (by unfold Func.isWrapper; first | (rw [if_pos (by decide +kernel)]; kernel_rfl) | (rw [if_neg (by decide +kernel)]; exact ⟨rfl, rfl⟩))
    (fun os started H enc _ => lifted os started H enc)
theorem proved : Rows.MachStepsSaid := over
end Go.Proofs.Ytnekegldodbgjaa.machSteps
