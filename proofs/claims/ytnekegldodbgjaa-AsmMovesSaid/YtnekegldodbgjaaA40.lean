import Derived.Test.YtnekegldodbgjaaA39
set_option linter.all false
set_option linter.unusedVariables false
set_option linter.unusedSimpArgs false
namespace Go.X
open Go Go.Proofs
set_option linter.unusedVariables false
set_option linter.unusedSimpArgs false
theorem beq_dec (a b : Nat) : Nat.beq a b = decide (a = b) := by
  by_cases h : a = b
  · subst h; simp
  · rw [beq_ff h]; simp [h]
/-- A piece, then the rest. -/
theorem xwp_seqW {E : FEnv} {Q : Post} {s : St} {F : Fns} {sc : Short} {x y : XCode} {p r q : Pj} {l : Leaf} (hcl : Cl E.toEnv Q) (hF : FnsOK E.P F sc) (k : Nat) (he : walk F sc k x s.t s.h s.n p r q = some ⟨l, none⟩) (hn : l.e = .normal) (s' : St)
    (hl : LeafTo E ((pjOf p r l.e).ks ++ (pjOf p r l.e).uk) (ext (pjOf p r l.e) s.t s.h l) s') (hQ : XWP E.toEnv y Q s') : XWP E.toEnv (.seq x y) Q s :=
  xwp_seq (xwp_toEnd (cl_seqP hcl) hF k he s' hl (by rw [hn]; exact hQ))
/-- The items of AsmMoves. -/
def mvI (n : Nat) : Its where
  lb := fun j => bif Nat.beq j 0 then ⟨#[97]⟩ else bif Nat.beq j (n + 3) then ⟨#[98]⟩ else ⟨#[]⟩
  to := fun j => bif Nat.beq j 1 then ⟨#[98]⟩ else bif Nat.beq j (n + 2) then ⟨#[97]⟩ else bif Nat.beq j (n + 4) then ⟨#[97]⟩ else ⟨#[]⟩
  op := fun j => bif Nat.beq j 0 then 0 else bif Nat.beq j 1 then 46 else bif Nat.blt j (n + 2) then 28 else bif Nat.beq j (n + 2) then 45 else bif Nat.beq j (n + 3) then 0 else 53
  rd := fun _ => 0
  rs1 := fun j => bif Nat.beq j 1 then 5 else bif Nat.beq j (n + 2) then 5 else 0
  rs2 := fun _ => 0
  imm := fun j => bif Nat.blt 1 j && Nat.blt j (n + 2) then ((j - 2 : Nat) : Int).tmod 5 else 0
  part := fun _ => 0
def mvN (a : Int) : Nat := (IntKind.i64.wrap ((IntKind.u64.wrap a).tmod 1300)).toNat
def mvAt (a : Int) : Int := IntKind.i64.wrap (4 * IntKind.i64.wrap ((IntKind.u64.wrap a).tmod 1000000))
theorem u64_wrap (a : Int) : IntKind.u64.wrap a = a % 18446744073709551616 := by
  simp [IntKind.wrap, IntKind.bits, IntKind.signed]
theorem mvN_eq (a : Int) : IntKind.i64.wrap ((IntKind.u64.wrap a).tmod 1300) = (mvN a : Int) ∧ mvN a < 1300 := by
  have h1 : (0 : Int) ≤ IntKind.u64.wrap a := by rw [u64_wrap]; omega
  have h2 : (IntKind.u64.wrap a).tmod 1300 = (IntKind.u64.wrap a) % 1300 := Int.tmod_eq_emod_of_nonneg h1
  unfold mvN
  rw [h2, wrap_i (by omega) (by omega)]
  omega
theorem mvAt_facts (a : Int) : 0 ≤ mvAt a ∧ mvAt a ≤ 3999996 ∧ mvAt a % 4 = 0 := by
  have h1 : (0 : Int) ≤ IntKind.u64.wrap a := by rw [u64_wrap]; omega
  have h2 : (IntKind.u64.wrap a).tmod 1000000 = (IntKind.u64.wrap a) % 1000000 := Int.tmod_eq_emod_of_nonneg h1
  unfold mvAt
  rw [h2, wrap_i (n := IntKind.u64.wrap a % 1000000) (by omega) (by omega), wrap_i (by omega) (by omega)]
  omega
theorem mv_mid (n k : Nat) (hk : k < n) : (mvI n).row (k + 2) = [.string ⟨#[]⟩, .int .i64 28, .int .i64 0, .int .i64 0, .int .i64 0, .int .i64 ((k : Int).tmod 5), .string ⟨#[]⟩, .int .i64 0] := by
  have h1 : ¬ k + 2 = n + 3 := by omega
  have h2 : ¬ k + 2 = n + 2 := by omega
  have h3 : ¬ k + 2 = n + 4 := by omega
  have h4 : k + 2 < n + 2 := by omega
  simp [mvI, Its.row, beq_dec, blt_dec, h4, show ¬ k = n + 1 by omega, show ¬ k = n by omega, show ¬ k = n + 2 by omega]
theorem mv_0 (n : Nat) : (mvI n).row 0 = [.string ⟨#[97]⟩, .int .i64 0, .int .i64 0, .int .i64 0, .int .i64 0, .int .i64 0, .string ⟨#[]⟩, .int .i64 0] := by
  simp [mvI, Its.row, beq_dec, blt_dec]
theorem mv_1 (n : Nat) : (mvI n).row 1 = [.string ⟨#[]⟩, .int .i64 46, .int .i64 0, .int .i64 5, .int .i64 0, .int .i64 0, .string ⟨#[98]⟩, .int .i64 0] := by
  simp [mvI, Its.row, beq_dec, blt_dec]
theorem mv_2 (n : Nat) : (mvI n).row (n + 2) = [.string ⟨#[]⟩, .int .i64 45, .int .i64 0, .int .i64 5, .int .i64 0, .int .i64 0, .string ⟨#[97]⟩, .int .i64 0] := by
  simp [mvI, Its.row, beq_dec, blt_dec]
theorem mv_3 (n : Nat) : (mvI n).row (n + 3) = [.string ⟨#[98]⟩, .int .i64 0, .int .i64 0, .int .i64 0, .int .i64 0, .int .i64 0, .string ⟨#[]⟩, .int .i64 0] := by
  have h1 : ¬ n + 3 < n + 2 := by omega
  simp [mvI, Its.row, beq_dec, blt_dec, h1]
theorem mv_4 (n : Nat) : (mvI n).row (n + 4) = [.string ⟨#[]⟩, .int .i64 53, .int .i64 0, .int .i64 0, .int .i64 0, .int .i64 0, .string ⟨#[97]⟩, .int .i64 0] := by
  have h1 : ¬ n + 4 < n + 2 := by omega
  simp [mvI, Its.row, beq_dec, blt_dec, h1]
section
variable (a a0 a1 : Int)
noncomputable abbrev EM (ρ : Rn) (w : World) (hd : ∀ id, 2 ≤ id → ρ id = none) : FEnv := envOf Try.prog 135 2 [] mixed ρ w hd
def H1M (n k : Nat) : List (Nat × Blk) := [(2, .rows (k + 2) 8 (mvI n).row true false), (3, .var [.int .i64 a0, .int .i64 a1])]
def V1M (n k : Nat) : List Value := [.int .i64 k, .slice (some ⟨2, 0, none⟩) (k + 2) (k + 2), .int .i64 n, .pointer (some ⟨3, 0, some 0⟩)]
def S1M (n k : Nat) : St := ⟨mkT [6, 5, 0, 3] (V1M n k), mkH (H1M a0 a1 n k), 4⟩
theorem bis_str {P : Program} {σ : Nm} {m n : Nat} {I : Its} {f : Nat → List Value} {o r r' : Bool} (h : ∀ j, j < m → f j = I.row j) (hr : r' = true ∨ r = false) : BIs P σ (.rows m 8 I.row true r') (.rows m 8 f o r) :=
  ⟨rfl, rfl, fun j hj => by rw [h j hj]; rfl, .inl rfl, hr⟩
variable {ρ : Rn} {w : World} {hd : ∀ id, 2 ≤ id → ρ id = none}
/-- The items are made. -/
theorem mv_items {Q : Post} (hcl : Cl (EM ρ w hd).toEnv Q) (h : XWP (EM ρ w hd).toEnv x3_54 Q (S1M a0 a1 (mvN a) (mvN a))) :
    XWP (EM ρ w hd).toEnv x3 Q ⟨argTm 0 [.int .i64 a, .agg ⟨[.int .i64 a0, .int .i64 a1]⟩], [], 2⟩ := by
  obtain ⟨hn, hlt⟩ := mvN_eq a
  have ea := p3_a a a0 a1
  rw [hn] at ea
  generalize mvN a = n at *
  refine xwp_toLoop FOKM 1000 ea (S1M a0 a1 n 0) ⟨V1M n 0, H1M a0 a1 n 0, 4, rfl, rfl, ⟨rfl, rfl, rfl, rfl, trivial⟩, bis_str (n := n) (fun j hj => ?_) (.inr rfl), rfl, trivial⟩ ?_
  · match j, hj with
    | 0, _ => rw [mv_0]; rfl
    | 1, _ => rw [mv_1]; rfl
  refine xwp_loopR (S1M a0 a1 n) (fun k => k ≤ n) (fun k => n - k) 0 (Nat.zero_le _) fun k hk => ?_
  have eb := p3_b k n a0 a1 (mvI n).row
  by_cases hlt' : k < n
  · have g : (!decide (k + 2 + 1 ≤ k + 2) && decide (k + 2 ≤ k + 2) && decide ((k + 2 + 1) * 89 ≤ 1099511627776)) = true := by simp; omega
    rw [g, wrap_succ hlt' (by omega)] at eb
    simp only [hlt', decide_true, cond_true] at eb
    refine xwp_toEnd (cl_round (cl_ctx hcl _)) FOKM 1000 eb (S1M a0 a1 n (k + 1)) ⟨V1M n (k + 1), H1M a0 a1 n (k + 1), 4, rfl, rfl, ⟨rfl, rfl, rfl, rfl, trivial⟩, bis_str (n := n) (fun j hj => ?_) (.inr rfl), rfl, trivial⟩ ⟨k + 1, hlt', Nat.sub_succ_lt_self n k hlt', Wk.refl _ _⟩
    by_cases h : j < k + 2
    · simp only [rowCat, lt_blt h, cond_true, Nat.zero_add]
    · have : j = k + 2 := by omega
      subst this
      have hb0 : Nat.blt (k + 2) (k + 2) = false := by rw [blt_dec]; simp
      simp only [rowCat, hb0, cond_false, Nat.sub_self, mv_mid n k hlt']
      rfl
  · have hkn : k = n := by omega
    subst hkn
    simp only [hlt', decide_false, cond_false] at eb
    refine xwp_toEnd (cl_round (cl_ctx hcl _)) FOKM 1000 eb (S1M a0 a1 k k) ⟨V1M k k, H1M a0 a1 k k, 4, rfl, rfl, ⟨rfl, rfl, rfl, rfl, trivial⟩, bis_str (n := k) (fun _ _ => rfl) (.inr rfl), rfl, trivial⟩ ?_
    exact h
/-- What is asked of Assemble. -/
structure MvOK (n : Nat) (x y : Int) : Prop where
  ex : asmE (mvI n) x (n + 5) = 0
  ey : asmE (mvI n) y (n + 5) = 0
  same : asmW (mvI n) x (n + 5) = asmW (mvI n) y (n + 5)
  lo : n + 3 ≤ (asmW (mvI n) x (n + 5)).length
  hi : (asmW (mvI n) x (n + 5)).length ≤ n + 5
  ax : (finA (mvI n) x (n + 5)).m.val (.string ⟨#[97]⟩) = x
  ay : (finA (mvI n) y (n + 5)).m.val (.string ⟨#[97]⟩) = y
  bd : IntKind.i64.wrap ((finA (mvI n) x (n + 5)).m.val (.string ⟨#[98]⟩) - x) = IntKind.i64.wrap ((finA (mvI n) y (n + 5)).m.val (.string ⟨#[98]⟩) - y)
theorem mv_rest (hok : MvOK (mvN a) (mvAt a0) (mvAt a1)) {Q : Post} (hcl : Cl (EM ρ w hd).toEnv Q) (hQ : Q .ret ⟨mkT [4] [.bool true], [], 2⟩) : XWP (EM ρ w hd).toEnv x3_54 Q (S1M a0 a1 (mvN a) (mvN a)) := by
  obtain ⟨hn, hlt⟩ := mvN_eq a
  clear hn
  generalize mvN a = n at *
  -- the last three items
  have ec := p3_c n a0 a1 (mvI n).row
  have g : (!decide (n + 2 + 3 ≤ n + 2) && decide (n + 2 ≤ n + 2) && decide ((n + 2 + 3) * 89 ≤ 1099511627776)) = true := by simp; omega
  rw [g] at ec
  refine xwp_seqW hcl FOKM 1000 ec rfl ⟨mkT [5, 0, 3] [.slice (some ⟨2, 0, none⟩) (n + 5) (n + 5), .int .i64 n, .pointer (some ⟨3, 0, some 0⟩)], mkH [(2, .rows (n + 5) 8 (mvI n).row true false), (3, .var [.int .i64 a0, .int .i64 a1])], 4⟩
    ⟨[.slice (some ⟨2, 0, none⟩) (n + 5) (n + 5), .int .i64 n, .pointer (some ⟨3, 0, some 0⟩)], [(2, .rows (n + 5) 8 (mvI n).row true false), (3, .var [.int .i64 a0, .int .i64 a1])], 4, rfl, rfl, ⟨rfl, rfl, rfl, trivial⟩, bis_str (n := n) (fun j hj => ?_) (.inr rfl), rfl, trivial⟩ ?_
  · by_cases h : j < n + 2
    · simp only [rowCat, lt_blt h, cond_true, Nat.zero_add]
    · obtain ⟨i, rfl⟩ : ∃ i, j = n + 2 + i := ⟨j - (n + 2), by omega⟩
      have hb0 : Nat.blt (n + 2 + i) (n + 2) = false := by rw [blt_dec]; simp
      simp only [rowCat, hb0, cond_false, Nat.add_sub_cancel_left]
      match i, (show i < 3 by omega) with
      | 0, _ => rw [show n + 2 + 0 = n + 2 from rfl, mv_2]; rfl
      | 1, _ => rw [show n + 2 + 1 = n + 3 from rfl, mv_3]; rfl
      | 2, _ => rw [show n + 2 + 2 = n + 4 from rfl, mv_4]; rfl
  have ed := p3_d n (n + 5) a0 a1 (mvI n).row
  refine xwp_seqW hcl FOKM 1000 ed rfl ⟨mkT [7, 8, 5, 0] [.int .i64 (mvAt a0), .int .i64 (mvAt a1), .slice (some ⟨2, 0, none⟩) (n + 5) (n + 5), .int .i64 n], mkH [(2, .rows (n + 5) 8 (mvI n).row true false)], 3⟩
    ⟨[.int .i64 (mvAt a0), .int .i64 (mvAt a1), .slice (some ⟨2, 0, none⟩) (n + 5) (n + 5), .int .i64 n], [(2, .rows (n + 5) 8 (mvI n).row true false)], 3, rfl, rfl, ⟨rfl, rfl, rfl, rfl, trivial⟩, bis_its, trivial⟩ ?_
  generalize mvAt a0 = x at *
  generalize mvAt a1 = y at *
  have hLx : asmW (mvI n) x (n + 5) ≠ [] := by intro h; have := hok.lo; rw [h] at this; simp at this
  have hLy : asmW (mvI n) y (n + 5) ≠ [] := by rw [← hok.same]; exact hLx
  generalize hWx : asmW (mvI n) x (n + 5) = W at *
  -- the first call
  have ee := p3_e n (n + 5) x y (mvI n)
  rw [decP_key] at ee
  rotate_left
  · exact ⟨rfl, fun _ _ => rfl, by omega, hok.ex, by rw [hWx]; exact hLx⟩
  change walk _ _ _ _ _ _ _ _ _ _ = some ⟨⟨[some (true, .slice (some ⟨3, 0, none⟩) (asmW (mvI n) x (n + 5)).length (asmW (mvI n) x (n + 5)).length), some (true, .map (some 4)), some (true, .int .i64 0)],
    [(3, some (.rows (asmW (mvI n) x (n + 5)).length 1 (fun j => [.int .u32 ((asmW (mvI n) x (n + 5)).getD j 0)]) true false)), (4, some (finA (mvI n) x (n + 5)).m.blk)], .normal, 5⟩, none⟩ at ee
  rw [hWx] at ee
  refine xwp_seqW hcl FOKM 1000 ee rfl ⟨mkT [9, 10, 11, 7, 8, 5, 0] [.slice (some ⟨3, 0, none⟩) W.length W.length, .map (some 4), .int .i64 0, .int .i64 x, .int .i64 y, .slice (some ⟨2, 0, none⟩) (n + 5) (n + 5), .int .i64 n], mkH [(3, .rows W.length 1 (fun j => [.int .u32 (W.getD j 0)]) true false), (4, (finA (mvI n) x (n + 5)).m.blk), (2, .rows (n + 5) 8 (mvI n).row true false)], 5⟩
    ⟨[.slice (some ⟨3, 0, none⟩) W.length W.length, .map (some 4), .int .i64 0, .int .i64 x, .int .i64 y, .slice (some ⟨2, 0, none⟩) (n + 5) (n + 5), .int .i64 n], [(3, .rows W.length 1 (fun j => [.int .u32 (W.getD j 0)]) true false), (4, (finA (mvI n) x (n + 5)).m.blk), (2, .rows (n + 5) 8 (mvI n).row true false)], 5, rfl, rfl, ⟨rfl, rfl, rfl, rfl, rfl, rfl, rfl, trivial⟩, bis_u32, bis_lmap, bis_its, trivial⟩ ?_
  -- the second one
  have ef := p3_f n (n + 5) W.length x y (mvI n) (fun j => W.getD j 0) (finA (mvI n) x (n + 5)).m
  rw [decP_key] at ef
  rotate_left
  · exact ⟨rfl, fun _ _ => rfl, by omega, hok.ey, hLy⟩
  change walk _ _ _ _ _ _ _ _ _ _ = some ⟨⟨[some (true, .slice (some ⟨5, 0, none⟩) (asmW (mvI n) y (n + 5)).length (asmW (mvI n) y (n + 5)).length), some (true, .map (some 6)), some (true, .int .i64 0)],
    [(5, some (.rows (asmW (mvI n) y (n + 5)).length 1 (fun j => [.int .u32 ((asmW (mvI n) y (n + 5)).getD j 0)]) true false)), (6, some (finA (mvI n) y (n + 5)).m.blk)], .normal, 7⟩, none⟩ at ef
  have hWy : asmW (mvI n) y (n + 5) = W := hok.same.symm.trans hWx
  rw [hWy] at ef
  refine xwp_seqW hcl FOKM 1000 ef rfl ⟨mkT [12, 13, 14, 9, 10, 11, 7, 8, 0] [.slice (some ⟨5, 0, none⟩) W.length W.length, .map (some 6), .int .i64 0, .slice (some ⟨3, 0, none⟩) W.length W.length, .map (some 4), .int .i64 0, .int .i64 x, .int .i64 y, .int .i64 n],
    mkH [(5, .rows W.length 1 (fun j => [.int .u32 (W.getD j 0)]) true false), (6, (finA (mvI n) y (n + 5)).m.blk), (3, .rows W.length 1 (fun j => [.int .u32 (W.getD j 0)]) true false), (4, (finA (mvI n) x (n + 5)).m.blk)], 7⟩
    ⟨[.slice (some ⟨5, 0, none⟩) W.length W.length, .map (some 6), .int .i64 0, .slice (some ⟨3, 0, none⟩) W.length W.length, .map (some 4), .int .i64 0, .int .i64 x, .int .i64 y, .int .i64 n],
    [(5, .rows W.length 1 (fun j => [.int .u32 (W.getD j 0)]) true false), (6, (finA (mvI n) y (n + 5)).m.blk), (3, .rows W.length 1 (fun j => [.int .u32 (W.getD j 0)]) true false), (4, (finA (mvI n) x (n + 5)).m.blk)], 7, rfl, rfl, ⟨rfl, rfl, rfl, rfl, rfl, rfl, rfl, rfl, rfl, trivial⟩, bis_u32, bis_lmap, bis_u32, bis_lmap, trivial⟩ ?_
  have eg := p3_g n W.length W.length x y (fun j => W.getD j 0) (fun j => W.getD j 0) (finA (mvI n) x (n + 5)).m (finA (mvI n) y (n + 5)).m
  rw [hok.ax, hok.ay, hok.bd] at eg
  simp only [bne_self_eq_false, Bool.or_self, cond_false] at eg
  refine xwp_toLoop FOKM 1000 eg ⟨mkT [110, 109, 9, 12, 0] [.int .i64 (0 : Nat), .int .i64 W.length, .slice (some ⟨3, 0, none⟩) W.length W.length, .slice (some ⟨5, 0, none⟩) W.length W.length, .int .i64 n], mkH [(5, .rows W.length 1 (fun j => [.int .u32 (W.getD j 0)]) true false), (3, .rows W.length 1 (fun j => [.int .u32 (W.getD j 0)]) true false)], 6⟩
    ⟨[.int .i64 (0 : Nat), .int .i64 W.length, .slice (some ⟨3, 0, none⟩) W.length W.length, .slice (some ⟨5, 0, none⟩) W.length W.length, .int .i64 n], [(5, .rows W.length 1 (fun j => [.int .u32 (W.getD j 0)]) true false), (3, .rows W.length 1 (fun j => [.int .u32 (W.getD j 0)]) true false)], 6, rfl, rfl, ⟨rfl, rfl, rfl, rfl, rfl, trivial⟩, bis_u32, bis_u32, trivial⟩ ?_
  refine xwp_loopR (fun k : Nat => ⟨mkT [110, 109, 9, 12, 0] [.int .i64 k, .int .i64 W.length, .slice (some ⟨3, 0, none⟩) W.length W.length, .slice (some ⟨5, 0, none⟩) W.length W.length, .int .i64 n], mkH [(5, .rows W.length 1 (fun j => [.int .u32 (W.getD j 0)]) true false), (3, .rows W.length 1 (fun j => [.int .u32 (W.getD j 0)]) true false)], 6⟩)
    (fun k => k ≤ W.length) (fun k => W.length - k) 0 (Nat.zero_le _) fun k hk => ?_
  have hhi := hok.hi
  rw [hWx] at hhi
  have eh := p3_h n W.length k (fun j => W.getD j 0) (fun j => W.getD j 0)
  by_cases hkl : k < W.length
  · simp only [hkl, decide_true, cond_true, bne_self_eq_false, cond_false, wrap_succ hkl (show W.length < 9223372036854775808 by omega)] at eh
    exact xwp_toEnd (cl_round (cl_ctx hcl _)) FOKM 1000 eh _ ⟨[.int .i64 ((k + 1 : Nat) : Int), .int .i64 W.length, .slice (some ⟨3, 0, none⟩) W.length W.length, .slice (some ⟨5, 0, none⟩) W.length W.length, .int .i64 n], [(5, .rows W.length 1 (fun j => [.int .u32 (W.getD j 0)]) true false), (3, .rows W.length 1 (fun j => [.int .u32 (W.getD j 0)]) true false)], 6, rfl, rfl, ⟨rfl, rfl, rfl, rfl, rfl, trivial⟩, bis_u32, bis_u32, trivial⟩
      ⟨k + 1, hkl, Nat.sub_succ_lt_self _ k hkl, Wk.refl _ _⟩
  · have hke : k = W.length := by omega
    simp only [hkl, decide_false, cond_false] at eh
    refine xwp_toEnd (cl_round (cl_ctx hcl _)) FOKM 1000 eh _ ⟨[.int .i64 k, .int .i64 W.length, .slice (some ⟨3, 0, none⟩) W.length W.length, .slice (some ⟨5, 0, none⟩) W.length W.length, .int .i64 n], [(5, .rows W.length 1 (fun j => [.int .u32 (W.getD j 0)]) true false), (3, .rows W.length 1 (fun j => [.int .u32 (W.getD j 0)]) true false)], 6, rfl, rfl, ⟨rfl, rfl, rfl, rfl, rfl, trivial⟩, bis_u32, bis_u32, trivial⟩ ?_
    show XWP _ x3_48 Q _
    have ei := p3_i n W.length k (fun j => W.getD j 0) (fun j => W.getD j 0)
    have hlo := hok.lo
    rw [hWx] at hlo
    have gg : (decide ((W.length : Int) ≥ IntKind.i64.wrap ((n : Int) + 3)) && decide ((W.length : Int) ≤ IntKind.i64.wrap ((n : Int) + 5))) = true := by
      rw [wrap_i (n := (n : Int) + 3) (by omega) (by omega), wrap_i (n := (n : Int) + 5) (by omega) (by omega)]
      simp; omega
    rw [gg] at ei
    exact xwp_toEnd hcl FOKM 1000 ei ⟨mkT [4] [.bool true], [], 2⟩ ⟨[.bool true], [], 2, rfl, rfl, ⟨rfl, trivial⟩, trivial⟩ hQ
/-- AsmMoves, if Assemble is as asked. -/
theorem b3 (hok : MvOK (mvN a) (mvAt a0) (mvAt a1)) : Body Try.prog 3 [.int .i64 a, .agg ⟨[.int .i64 a0, .int .i64 a1]⟩] [] (.bool true) [] 2 0 :=
  body_of mixed fx3 (by simp) fun ρ w hd => mv_items a a0 a1 cl_fin (mv_rest a a0 a1 hok cl_fin (fin_of rfl trivial rfl rfl))
end
end Go.X
