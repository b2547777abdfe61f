import Derived.Test.YtnekegldodbgjaaC42
import Derived.Test.YtnekegldodbgjaaC38
set_option linter.all false
set_option linter.unusedVariables false
set_option linter.unusedSimpArgs false
namespace Go.X
open Go Go.Proofs
set_option linter.unusedVariables false
set_option linter.unusedSimpArgs false
theorem row8g {k j : Nat} {I : Its} (f : Nat → List Value) (h : j < k + 1) (r : List Value) (hr : r.length = 8) (he : I.row k = r) (hf : ∀ j, j < k → f j = I.row j) :
    (rowCat f 0 k fun j => slab r (j * 8) 8) j = I.row j := by
  by_cases hj : j < k
  · simp only [rowCat, lt_blt hj, cond_true, Nat.zero_add]
    exact hf j hj
  · have : j = k := by omega
    subst this
    have hb0 : Nat.blt j j = false := by rw [blt_dec]; simp
    simp only [rowCat, hb0, cond_false, Nat.sub_self]
    rw [he, Nat.zero_mul]
    show (r.drop 0).take 8 = r
    rw [List.drop_zero, ← hr, List.take_length]
/-- A list of so many rows. -/
def slT : Nat → Value
  | 0 => .slice none 0 0
  | t + 1 => .slice (some ⟨100, 0, none⟩) (t + 1) (t + 1)
def hpT (I : Its) : Nat → List (Nat × Blk)
  | 0 => []
  | t + 1 => [(100, .rows (t + 1) 8 I.row true false)]
section
variable {c m : Nat}
theorem lb_pl {j : Nat} (h : j < c) : (lbI c m).row j = [.string ⟨#[]⟩, .int .i64 28, .int .i64 0, .int .i64 0, .int .i64 0, .int .i64 0, .string ⟨#[]⟩, .int .i64 0] := by
  have h1 : Nat.blt j c = true := lt_blt h
  have h2 : Nat.blt j (c + m) = true := lt_blt (by omega)
  simp only [Its.row, lbI, h1, h2, cond_true]
theorem lb_lb {i : Nat} (h : i < m) : (lbI c m).row (c + i) = [.string (nameB i), .int .i64 0, .int .i64 0, .int .i64 0, .int .i64 0, .int .i64 0, .string ⟨#[]⟩, .int .i64 0] := by
  have h1 : Nat.blt (c + i) c = false := by rw [blt_dec]; simp
  have h2 : Nat.blt (c + i) (c + m) = true := lt_blt (by omega)
  simp only [Its.row, lbI, h1, h2, cond_true, cond_false, Nat.add_sub_cancel_left]
theorem lb_jp {i : Nat} : (lbI c m).row (c + m + i) = [.string ⟨#[]⟩, .int .i64 53, .int .i64 0, .int .i64 0, .int .i64 0, .int .i64 0, .string (nameB i), .int .i64 0] := by
  have h1 : Nat.blt (c + m + i) c = false := by rw [blt_dec]; simp; omega
  have h2 : Nat.blt (c + m + i) (c + m) = false := by rw [blt_dec]; simp
  simp only [Its.row, lbI, h1, h2, cond_true, cond_false, Nat.add_sub_cancel_left]
end
section
variable (n k : Int) (c m : Nat)
noncomputable abbrev E5 (ρ : Rn) (w : World) (hd : ∀ id, 100 ≤ id → ρ id = none) : FEnv := envOf Try.prog 122 100 [] mixed ρ w hd
variable {ρ : Rn} {w : World} {hd : ∀ id, 100 ≤ id → ρ id = none}
def SL1 (j : Nat) : St := ⟨mkT [6, 5, 0, 1] [.int .i64 j, slT j, .int .u8 n, .int .u8 k], mkH (hpT (lbI c m) j), 101⟩
theorem app_ok {t : Nat} (h : t ≤ 1000) : (!decide (t + 1 ≤ t) && decide (t ≤ t) && decide ((t + 1) * 89 ≤ 1099511627776)) = true := by simp; omega
theorem lb1 {Q : Post} (hcl : Cl (E5 ρ w hd).toEnv Q) (hc : c ≤ 19) (hk : IntKind.i64.wrap (k.tmod 20) = (c : Int)) (h : Q (.exit 0) (SL1 n k c m c)) : XWP (E5 ρ w hd).toEnv (.loop x5_15) Q (SL1 n k c m 0) := by
  refine xwp_loopR (SL1 n k c m) (fun j => j ≤ c) (fun j => c - j) 0 (Nat.zero_le _) fun j hj => ?_
  match j, hj with
  | 0, _ =>
    by_cases h0 : c = 0
    · subst h0
      have eb := p5_b0x n k
      rw [hk] at eb
      refine xwp_toEnd (cl_round hcl) FOKL 1000 eb (SL1 n k 0 m 0) ⟨_, _, 101, rfl, rfl, ⟨rfl, rfl, rfl, rfl, trivial⟩, trivial⟩ h
    · have eb := p5_b0 n k
      have g : decide ((0 : Int) < (c : Int)) = true := by simp; omega
      rw [hk, g, cond_true] at eb
      refine xwp_toEnd (cl_round hcl) FOKL 1000 eb (SL1 n k c m 1) ⟨_, _, 101, rfl, rfl, ⟨rfl, rfl, rfl, rfl, trivial⟩, bis_str (n := 1) (fun j hj => ?_) (.inr rfl), trivial⟩ ⟨1, by omega, show c - 1 < c - 0 by omega, Wk.refl _ _⟩
      exact row8g _ hj _ rfl (lb_pl (j := 0) (by omega)) (fun _ h => absurd h (Nat.not_lt_zero _))
  | j + 1, hj =>
    have eb := p5_b n k (j + 1) (lbI c m).row
    by_cases hlt : j + 1 < c
    · have g : decide (((j + 1 : Nat) : Int) < (c : Int)) = true := by simp; omega
      rw [hk, g, app_ok (by omega), wrap_succ hlt (by omega)] at eb
      simp only [cond_true] at eb
      refine xwp_toEnd (cl_round hcl) FOKL 1000 eb (SL1 n k c m (j + 1 + 1)) ⟨_, _, 101, rfl, rfl, ⟨rfl, rfl, rfl, rfl, trivial⟩, bis_str (n := 1) (fun j hj => ?_) (.inr rfl), trivial⟩ ⟨j + 1 + 1, hlt, show c - (j + 1 + 1) < c - (j + 1) by omega, Wk.refl _ _⟩
      exact row8g _ hj _ rfl (lb_pl hlt) (fun _ _ => rfl)
    · have hjc : j + 1 = c := by omega
      have g : decide (((j + 1 : Nat) : Int) < (c : Int)) = false := by simp; omega
      rw [hk, g] at eb
      simp only [cond_false] at eb
      refine xwp_toEnd (cl_round hcl) FOKL 1000 eb (SL1 n k c m (j + 1)) ⟨_, _, 101, rfl, rfl, ⟨rfl, rfl, rfl, rfl, trivial⟩, bis_str (n := 1) (fun _ _ => rfl) (.inr rfl), trivial⟩ ?_
      rw [hjc]
      exact h
def SL2 (i : Nat) : St := ⟨mkT [9, 5, 7, 8, 1] [.int .i64 i, slT (c + i), .int .i64 m, fnV, .int .u8 k], mkH (hpT (lbI c m) (c + i)), 101⟩
theorem lb2 {Q : Post} (hcl : Cl (E5 ρ w hd).toEnv Q) (hc : c ≤ 19) (hm : m ≤ 20) (h0m : 0 < m) (h : Q (.exit 2) (SL2 k c m m)) : XWP (E5 ρ w hd).toEnv (.loop x5_29) Q (SL2 k c m 0) := by
  refine xwp_loopR (SL2 k c m) (fun j => j ≤ m) (fun j => m - j) 0 (Nat.zero_le _) fun i hi => ?_
  by_cases hz : c + i = 0
  · obtain ⟨rfl, rfl⟩ : c = 0 ∧ i = 0 := by omega
    have eb := p5_d0 k m
    have g : decide ((0 : Int) < (m : Int)) = true := by simp; omega
    rw [g, cond_true] at eb
    refine xwp_toEnd (cl_round hcl) FOKL 1000 eb (SL2 k 0 m 1) ⟨_, _, 101, rfl, rfl, ⟨rfl, rfl, rfl, rfl, rfl, trivial⟩, bis_str (n := 1) (fun j hj => ?_) (.inr rfl), trivial⟩ ⟨1, by omega, show m - 1 < m - 0 by omega, Wk.refl _ _⟩
    exact row8g _ hj _ rfl (lb_lb (i := 0) (by omega)) (fun _ h => absurd h (Nat.not_lt_zero _))
  · obtain ⟨t, ht⟩ : ∃ t, c + i = t + 1 := ⟨c + i - 1, by omega⟩
    have eb := p5_d k i m (t + 1) (lbI c m).row
    have hs : SL2 k c m i = ⟨mkT [9, 5, 7, 8, 1] [.int .i64 i, slT (t + 1), .int .i64 m, fnV, .int .u8 k], mkH (hpT (lbI c m) (t + 1)), 101⟩ := by unfold SL2; rw [ht]
    rw [hs]
    by_cases hlt : i < m
    · have g : decide (i < m) = true := by simp [hlt]
      rw [g, app_ok (by omega), wrap_succ hlt (by omega)] at eb
      simp only [cond_true] at eb
      have hs2 : SL2 k c m (i + 1) = ⟨mkT [9, 5, 7, 8, 1] [.int .i64 ((i + 1 : Nat) : Int), slT (t + 1 + 1), .int .i64 m, fnV, .int .u8 k], mkH (hpT (lbI c m) (t + 1 + 1)), 101⟩ := by unfold SL2; rw [← Nat.add_assoc, ht]
      refine xwp_toEnd (cl_round hcl) FOKL 1000 eb (SL2 k c m (i + 1)) ⟨_, _, 101, hs2, rfl, ⟨rfl, rfl, rfl, rfl, rfl, trivial⟩, bis_str (n := 1) (fun j hj => ?_) (.inr rfl), trivial⟩ ⟨i + 1, hlt, show m - (i + 1) < m - i by omega, Wk.refl _ _⟩
      exact row8g _ hj _ rfl (by rw [← ht]; exact lb_lb hlt) (fun _ _ => rfl)
    · have him : i = m := by omega
      subst him
      have g : decide (i < i) = false := by simp
      rw [g] at eb
      simp only [cond_false] at eb
      exact xwp_toEnd (cl_round hcl) FOKL 1000 eb (SL2 k c i i) ⟨_, _, 101, hs, rfl, ⟨rfl, rfl, rfl, rfl, rfl, trivial⟩, bis_str (n := 1) (fun _ _ => rfl) (.inr rfl), trivial⟩ h
def SL3 (i : Nat) : St := ⟨mkT [10, 5, 7, 8, 1] [.int .i64 i, slT (c + m + i), .int .i64 m, fnV, .int .u8 k], mkH (hpT (lbI c m) (c + m + i)), 101⟩
theorem lb3 {Q : Post} (hcl : Cl (E5 ρ w hd).toEnv Q) (hc : c ≤ 19) (hm : m ≤ 20) (h0m : 0 < m) (h : Q (.exit 4) (SL3 k c m m)) : XWP (E5 ρ w hd).toEnv (.loop x5_41) Q (SL3 k c m 0) := by
  refine xwp_loopR (SL3 k c m) (fun j => j ≤ m) (fun j => m - j) 0 (Nat.zero_le _) fun i hi => ?_
  obtain ⟨t, ht⟩ : ∃ t, c + m + i = t + 1 := ⟨c + m + i - 1, by omega⟩
  have eb := p5_f k i m (t + 1) (lbI c m).row
  have hs : SL3 k c m i = ⟨mkT [10, 5, 7, 8, 1] [.int .i64 i, slT (t + 1), .int .i64 m, fnV, .int .u8 k], mkH (hpT (lbI c m) (t + 1)), 101⟩ := by unfold SL3; rw [ht]
  rw [hs]
  by_cases hlt : i < m
  · have g : decide (i < m) = true := by simp [hlt]
    rw [g, app_ok (by omega), wrap_succ hlt (by omega)] at eb
    simp only [cond_true] at eb
    have hs2 : SL3 k c m (i + 1) = ⟨mkT [10, 5, 7, 8, 1] [.int .i64 ((i + 1 : Nat) : Int), slT (t + 1 + 1), .int .i64 m, fnV, .int .u8 k], mkH (hpT (lbI c m) (t + 1 + 1)), 101⟩ := by unfold SL3; rw [← Nat.add_assoc, ht]
    refine xwp_toEnd (cl_round hcl) FOKL 1000 eb (SL3 k c m (i + 1)) ⟨_, _, 101, hs2, rfl, ⟨rfl, rfl, rfl, rfl, rfl, trivial⟩, bis_str (n := 1) (fun j hj => ?_) (.inr rfl), trivial⟩ ⟨i + 1, hlt, show m - (i + 1) < m - i by omega, Wk.refl _ _⟩
    exact row8g _ hj _ rfl (by rw [← ht]; exact lb_jp) (fun _ _ => rfl)
  · have him : i = m := by omega
    subst him
    have g : decide (i < i) = false := by simp
    rw [g] at eb
    simp only [cond_false] at eb
    exact xwp_toEnd (cl_round hcl) FOKL 1000 eb (SL3 k c i i) ⟨_, _, 101, hs, rfl, ⟨rfl, rfl, rfl, rfl, rfl, trivial⟩, bis_str (n := 1) (fun _ _ => rfl) (.inr rfl), trivial⟩ h
end
end Go.X
namespace Go.X
open Go Go.Proofs
theorem lb_all0 : ((List.range 4).all fun c => (List.range 20).all fun m => lbChk (0 + c) (m + 1)) = true := by kernel_rfl
theorem lb_all4 : ((List.range 3).all fun c => (List.range 20).all fun m => lbChk (4 + c) (m + 1)) = true := by kernel_rfl
end Go.X
namespace Go.X
open Go Go.Proofs
theorem lb_all7 : ((List.range 4).all fun c => (List.range 20).all fun m => lbChk (7 + c) (m + 1)) = true := by kernel_rfl
theorem lb_all11 : ((List.range 3).all fun c => (List.range 20).all fun m => lbChk (11 + c) (m + 1)) = true := by kernel_rfl
end Go.X
namespace Go.X
open Go Go.Proofs
theorem lb_all14 : ((List.range 4).all fun c => (List.range 20).all fun m => lbChk (14 + c) (m + 1)) = true := by kernel_rfl
theorem lb_all18 : ((List.range 2).all fun c => (List.range 20).all fun m => lbChk (18 + c) (m + 1)) = true := by kernel_rfl
end Go.X
namespace Go.X
open Go Go.Proofs
set_option linter.unusedVariables false
set_option linter.unusedSimpArgs false
/-- The words of the jumps mean them, and no other ones. -/
def chk53 (i : Nat) : Bool := (fun (w : Int) => (fun (x : Ans) => decB w && (x.q == 53 && (x.c.rd == 0 && (x.c.rs1 == 0 && (x.c.rs2 == 0 && (x.c.imm == -4 * (i : Int) && x.err == 0)))))) (decA w)) (encW ⟨53, 0, 0, 0, -4 * (i : Int)⟩)
theorem all53 : ((List.range 20).all chk53) = true := by kernel_rfl
theorem is53 {i : Nat} (h : i < 20) : DecU (encW ⟨53, 0, 0, 0, -4 * (i : Int)⟩) ∧ decA (encW ⟨53, 0, 0, 0, -4 * (i : Int)⟩) = ⟨53, ⟨0, 0, 0, -4 * (i : Int)⟩, 0⟩ := by
  have h1 := List.all_eq_true.1 all53 i (List.mem_range.2 h)
  unfold chk53 at h1
  simp only [Bool.and_eq_true, beq_iff_eq] at h1
  obtain ⟨h2, h3, h4, h5, h6, h7, h8⟩ := h1
  refine ⟨decU_of h2, ?_⟩
  generalize decA (encW ⟨53, 0, 0, 0, -4 * (i : Int)⟩) = x at *
  obtain ⟨q, ⟨rd, rs1, rs2, imm⟩, err⟩ := x
  simp_all
theorem lb_of {lo w : Nat} (h : ((List.range w).all fun c => (List.range 20).all fun m => lbChk (lo + c) (m + 1)) = true) {c m : Nat} (h1 : lo ≤ c) (h2 : c < lo + w) (h3 : 0 < m) (h4 : m ≤ 20) : lbChk c m = true := by
  have := List.all_eq_true.1 (List.all_eq_true.1 h (c - lo) (List.mem_range.2 (by omega))) (m - 1) (List.mem_range.2 (by omega))
  rwa [show lo + (c - lo) = c by omega, show m - 1 + 1 = m by omega] at this
theorem lb_chk {c m : Nat} (hc : c ≤ 19) (h0 : 0 < m) (hm : m ≤ 20) : lbChk c m = true := by
  by_cases h1 : c < 4
  · exact lb_of lb_all0 (by omega) (by omega) h0 hm
  by_cases h2 : c < 7
  · exact lb_of lb_all4 (by omega) (by omega) h0 hm
  by_cases h3 : c < 11
  · exact lb_of lb_all7 (by omega) (by omega) h0 hm
  by_cases h4 : c < 14
  · exact lb_of lb_all11 (by omega) (by omega) h0 hm
  by_cases h5 : c < 18
  · exact lb_of lb_all14 (by omega) (by omega) h0 hm
  · exact lb_of lb_all18 (by omega) (by omega) h0 hm
theorem lb_facts {c m : Nat} (hc : c ≤ 19) (h0 : 0 < m) (hm : m ≤ 20) : asmE (lbI c m) 0 (c + m + m) = 0 ∧ (finA (lbI c m) 0 (c + m + m)).m.n = m ∧ (asmW (lbI c m) 0 (c + m + m)).length = c + m ∧
    ∀ i, i < m → (finA (lbI c m) 0 (c + m + m)).m.val (.string (nameB (i : Int))) = 4 * (c : Int) ∧ (asmW (lbI c m) 0 (c + m + m)).getD (c + i) 0 = encW ⟨53, 0, 0, 0, -4 * (i : Int)⟩ := by
  have h := lb_chk hc h0 hm
  unfold lbChk at h
  simp only [Bool.and_eq_true, beq_iff_eq] at h
  obtain ⟨⟨h1, h2⟩, h3, h4⟩ := h
  refine ⟨h1, h2, h3, fun i hi => ?_⟩
  have := List.all_eq_true.1 h4 i (List.mem_range.2 hi)
  simp only [Bool.and_eq_true, beq_iff_eq] at this
  exact this
end Go.X
namespace Go.X
open Go Go.Proofs
set_option linter.unusedVariables false
set_option linter.unusedSimpArgs false
section
variable (n k : Int) (c m : Nat)
variable {ρ : Rn} {w : World} {hd : ∀ id, 100 ≤ id → ρ id = none}
def lbW (c m : Nat) (j : Nat) : Int := (asmW (lbI c m) 0 (c + m + m)).getD j 0
def lbM (c m : Nat) : LMap := (finA (lbI c m) 0 (c + m + m)).m
def SL4 (i : Nat) : St := ⟨mkT [14, 11, 12, 7, 8, 1] [.int .i64 i, .slice (some ⟨100, 0, none⟩) (c + m) (c + m), .map (some 101), .int .i64 m, fnV, .int .u8 k], mkH [(100, .rows (c + m) 1 (fun j => [.int .u32 (lbW c m j)]) true false), (101, (lbM c m).blk)], 102⟩
theorem lb4 {Q : Post} (hcl : Cl (E5 ρ w hd).toEnv Q) (hc : c ≤ 19) (hm : m ≤ 20) (h0m : 0 < m) (hk : IntKind.i64.wrap (k.tmod 20) = (c : Int)) (h : Q (.exit 6) (SL4 k c m m)) : XWP (E5 ρ w hd).toEnv (.loop x5_65) Q (SL4 k c m 0) := by
  obtain ⟨f1, f2, f3, f4⟩ := lb_facts hc h0m hm
  refine xwp_loopR (SL4 k c m) (fun j => j ≤ m) (fun j => m - j) 0 (Nat.zero_le _) fun i hi => ?_
  have eb := p5_i k i m (c + m) (lbW c m) (lbM c m)
  by_cases hlt : i < m
  · have g : decide (i < m) = true := by simp [hlt]
    obtain ⟨g1, g2⟩ := f4 i hlt
    have g2 : lbW c m (c + i) = encW ⟨53, 0, 0, 0, -4 * (i : Int)⟩ := g2
    have g1 : (lbM c m).val (.string (nameB (i : Int))) = 4 * (c : Int) := g1
    obtain ⟨d1, d2⟩ := is53 (i := i) (by omega)
    unfold DecU at d1
    rw [hk, g, cond_true] at eb
    have e1 : IntKind.i64.wrap ((c : Int) + (i : Int)) = ((c + i : Nat) : Int) := by rw [wrap_i (by omega) (by omega)]; omega
    have e2 : IntKind.i64.wrap (4 * (c : Int)) = 4 * (c : Int) := wrap_i (by omega) (by omega)
    have e3 : IntKind.i64.wrap (-4 * (i : Int)) = -4 * (i : Int) := wrap_i (by omega) (by omega)
    rw [e1, e2, e3, Int.toNat_natCast, g2, g1, d2, wrap_succ hlt (by omega)] at eb
    rw [decP_key2 d1 (show (decide (c + i < c + m) && intRange ((c + i : Nat) : Int) (c + m)) = true by rw [ir_nat]; simp [hlt])] at eb
    have g3 : ((4 * (c : Int)) != (4 * (c : Int)) || (0 : Int) != 0 || !((53 : Int) == 53 && ((0 : Int) == 0 && ((0 : Int) == 0 && ((0 : Int) == 0 && (-4 * (i : Int)) == (-4 * (i : Int))))))) = false := by simp
    rw [g3, cond_false] at eb
    exact xwp_toEnd (cl_round hcl) FOKL 1000 eb (SL4 k c m (i + 1)) ⟨_, _, 102, rfl, rfl, ⟨rfl, rfl, rfl, rfl, rfl, rfl, trivial⟩, bis_u32, bis_lmap, trivial⟩ ⟨i + 1, hlt, show m - (i + 1) < m - i by omega, Wk.refl _ _⟩
  · have him : i = m := by omega
    subst him
    have g : decide (i < i) = false := by simp
    rw [g] at eb
    simp only [cond_false] at eb
    exact xwp_toEnd (cl_round hcl) FOKL 1000 eb (SL4 k c i i) ⟨_, _, 102, rfl, rfl, ⟨rfl, rfl, rfl, rfl, rfl, rfl, trivial⟩, bis_u32, bis_lmap, trivial⟩ h
theorem lb_rest {Q : Post} (hcl : Cl (E5 ρ w hd).toEnv Q) (hc : c ≤ 19) (hm : m ≤ 20) (h0m : 0 < m) (hk : IntKind.i64.wrap (k.tmod 20) = (c : Int)) (hQ : Q .ret ⟨mkT [4] [.bool true], [], 100⟩) :
    XWP (E5 ρ w hd).toEnv x5_73 Q (SL3 k c m m) := by
  obtain ⟨f1, f2, f3, f4⟩ := lb_facts hc h0m hm
  have hne : asmW (lbI c m) 0 (c + m + m) ≠ [] := by intro h; rw [h] at f3; simp at f3; omega
  have ee := p5_g k m (c + m + m) (lbI c m)
  rw [decP_key] at ee
  rotate_left
  · exact ⟨rfl, fun _ _ => rfl, by omega, f1, hne⟩
  change walk _ _ _ _ _ _ _ _ _ _ = some ⟨⟨[some (true, .slice (some ⟨101, 0, none⟩) (asmW (lbI c m) 0 (c + m + m)).length (asmW (lbI c m) 0 (c + m + m)).length), some (true, .map (some 102)), some (true, .int .i64 0)],
    [(101, some (.rows (asmW (lbI c m) 0 (c + m + m)).length 1 (fun j => [.int .u32 (lbW c m j)]) true false)), (102, some (lbM c m).blk)], .normal, 103⟩, none⟩ at ee
  rw [f3] at ee
  obtain ⟨t, ht⟩ : ∃ t, c + m + m = t + 1 := ⟨c + m + m - 1, by omega⟩
  have hs : Wk (E5 ρ w hd).toEnv (SL3 k c m m) ⟨mkT [5, 7, 8, 1] [.slice (some ⟨100, 0, none⟩) (c + m + m) (c + m + m), .int .i64 m, fnV, .int .u8 k], mkH [(100, .rows (c + m + m) 8 (lbI c m).row true false)], 101⟩ := by
    unfold SL3
    rw [ht]
    exact weak [(100, 100)] rfl rfl ⟨⟨rfl, rfl⟩, ⟨rfl, rfl⟩, ⟨rfl, rfl⟩, ⟨rfl, rfl⟩, trivial⟩ ⟨bis_str (n := 1) (fun _ _ => rfl) (.inr rfl), trivial⟩
  refine XWP.wk hs ?_
  refine xwp_seqW hcl FOKL 1000 ee rfl ⟨mkT [11, 12, 13, 7, 8, 1] [.slice (some ⟨100, 0, none⟩) (c + m) (c + m), .map (some 101), .int .i64 0, .int .i64 m, fnV, .int .u8 k], mkH [(100, .rows (c + m) 1 (fun j => [.int .u32 (lbW c m j)]) true false), (101, (lbM c m).blk)], 102⟩
    ⟨_, _, 102, rfl, rfl, ⟨rfl, rfl, rfl, rfl, rfl, rfl, trivial⟩, bis_u32, bis_lmap, trivial⟩ ?_
  have eh := p5_h k m (c + m) (lbW c m) (lbM c m)
  have g : (((lbM c m).n : Int) != (m : Int) || ((c + m : Nat) : Int) != IntKind.i64.wrap (IntKind.i64.wrap (k.tmod 20) + (m : Int))) = false := by
    have f2 : (lbM c m).n = m := f2
    rw [hk, f2, wrap_i (by omega) (by omega)]
    simp
  rw [g, cond_false] at eh
  refine xwp_toLoop FOKL 1000 eh (SL4 k c m 0) ⟨_, _, 102, rfl, rfl, ⟨rfl, rfl, rfl, rfl, rfl, rfl, trivial⟩, bis_u32, bis_lmap, trivial⟩ ?_
  refine lb4 k c m (cl_ctx hcl _) hc hm h0m hk ?_
  show XWP _ x5_70 Q _
  refine XWP.wk (weak [] rfl rfl trivial trivial : Wk (E5 ρ w hd).toEnv (SL4 k c m m) ⟨[], [], 102⟩) ?_
  exact xwp_toEnd hcl FOKL 1000 p5_j ⟨mkT [4] [.bool true], [], 100⟩ ⟨[.bool true], [], 100, rfl, rfl, ⟨rfl, trivial⟩, trivial⟩ hQ
theorem lb_all {Q : Post} (hcl : Cl (E5 ρ w hd).toEnv Q) (hc : c ≤ 19) (hm : m ≤ 20) (h0m : 0 < m) (hk : IntKind.i64.wrap (k.tmod 20) = (c : Int)) (hn : IntKind.i64.wrap (IntKind.i64.wrap (n.tmod 20) + 1) = (m : Int))
    (hQ : Q .ret ⟨mkT [4] [.bool true], [], 100⟩) : XWP (E5 ρ w hd).toEnv x5 Q ⟨argTm 0 [.int .u8 n, .int .u8 k], [], 100⟩ := by
  refine xwp_toLoop FOKL 1000 (p5_a n k) (SL1 n k c m 0) ⟨_, _, 101, rfl, rfl, ⟨rfl, rfl, rfl, rfl, trivial⟩, trivial⟩ ?_
  refine lb1 n k c m (cl_ctx hcl _) hc hk ?_
  show XWP _ x5_77 Q _
  have h2 : XWP (E5 ρ w hd).toEnv (.loop x5_29) (ctxP (E5 ρ w hd).toEnv [.bl 2, .sq x5_74] Q) (SL2 k c m 0) := by
    refine lb2 k c m (cl_ctx hcl _) hc hm h0m ?_
    show XWP _ x5_74 Q _
    obtain ⟨t, ht⟩ : ∃ t, c + m = t + 1 := ⟨c + m - 1, by omega⟩
    have hs : Wk (E5 ρ w hd).toEnv (SL2 k c m m) ⟨mkT [5, 7, 8, 1] [.slice (some ⟨100, 0, none⟩) (c + m) (c + m), .int .i64 m, fnV, .int .u8 k], mkH [(100, .rows (c + m) 8 (lbI c m).row true false)], 101⟩ := by
      unfold SL2
      rw [ht]
      exact weak [(100, 100)] rfl rfl ⟨⟨rfl, rfl⟩, ⟨rfl, rfl⟩, ⟨rfl, rfl⟩, ⟨rfl, rfl⟩, trivial⟩ ⟨bis_str (n := 1) (fun _ _ => rfl) (.inr rfl), trivial⟩
    refine XWP.wk hs ?_
    have h3 : XWP (E5 ρ w hd).toEnv (.loop x5_41) (ctxP (E5 ρ w hd).toEnv [.bl 4, .sq x5_73] Q) (SL3 k c m 0) := lb3 k c m (cl_ctx hcl _) hc hm h0m (show XWP _ x5_73 Q _ from lb_rest k c m hcl hc hm h0m hk hQ)
    refine xwp_toLoop FOKL 1000 (p5_e k m (c + m) (lbI c m).row) (SL3 k c m 0) ⟨[.int .i64 (0 : Nat), .slice (some ⟨100, 0, none⟩) (c + m) (c + m), .int .i64 m, fnV, .int .u8 k], [(100, .rows (c + m) 8 (lbI c m).row true false)], 101, ?_, rfl, ⟨rfl, rfl, rfl, rfl, rfl, trivial⟩, bis_str (n := 1) (fun _ _ => rfl) (.inr rfl), trivial⟩ h3
    unfold SL3
    rw [Nat.add_zero, ht]
    rfl
  cases c with
  | zero =>
    have ec := p5_c0 n k
    rw [hn] at ec
    refine XWP.wk (weak [] rfl rfl ⟨⟨rfl, rfl⟩, ⟨rfl, rfl⟩, ⟨rfl, rfl⟩, trivial⟩ trivial : Wk (E5 ρ w hd).toEnv (SL1 n k 0 m 0) ⟨mkT [5, 0, 1] [.slice none 0 0, .int .u8 n, .int .u8 k], [], 101⟩) ?_
    exact xwp_toLoop FOKL 1000 ec (SL2 k 0 m 0) ⟨_, _, 101, rfl, rfl, ⟨rfl, rfl, rfl, rfl, rfl, trivial⟩, trivial⟩ h2
  | succ t =>
    have ec := p5_c n k (t + 1) (lbI (t + 1) m).row
    rw [hn] at ec
    refine XWP.wk (weak [(100, 100)] rfl rfl ⟨⟨rfl, rfl⟩, ⟨rfl, rfl⟩, ⟨rfl, rfl⟩, trivial⟩ ⟨bis_str (n := 1) (fun _ _ => rfl) (.inr rfl), trivial⟩ : Wk (E5 ρ w hd).toEnv (SL1 n k (t + 1) m (t + 1)) ⟨mkT [5, 0, 1] [.slice (some ⟨100, 0, none⟩) (t + 1) (t + 1), .int .u8 n, .int .u8 k], mkH [(100, .rows (t + 1) 8 (lbI (t + 1) m).row true false)], 101⟩) ?_
    exact xwp_toLoop FOKL 1000 ec (SL2 k (t + 1) m 0) ⟨_, _, 101, rfl, rfl, ⟨rfl, rfl, rfl, rfl, rfl, trivial⟩, bis_str (n := 1) (fun _ _ => rfl) (.inr rfl), trivial⟩ h2
end
/-- AsmLabels. -/
theorem c5 (n k : Int) (hn : 0 ≤ n) (hk : 0 ≤ k) : Body Try.prog 5 [.int .u8 n, .int .u8 k] [] (.bool true) [] 100 0 := by
  refine body_of mixed fx5 (by simp) fun ρ w hd => ?_
  have e1 : k.tmod 20 = k % 20 := Int.tmod_eq_emod_of_nonneg hk
  have e2 : n.tmod 20 = n % 20 := Int.tmod_eq_emod_of_nonneg hn
  refine lb_all n k (k % 20).toNat ((n % 20).toNat + 1) cl_fin (by omega) (by omega) (by omega) ?_ ?_ (fin_of rfl trivial rfl rfl)
  · rw [e1, wrap_i (by omega) (by omega)]; omega
  · rw [e2, wrap_i (n := n % 20) (by omega) (by omega), wrap_i (by omega) (by omega)]; omega
end Go.X
