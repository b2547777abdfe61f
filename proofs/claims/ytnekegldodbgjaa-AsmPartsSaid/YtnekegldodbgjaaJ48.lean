import Derived.Test.YtnekegldodbgjaaJ47
import Derived.Test.YtnekegldodbgjaaJ46
import Derived.Test.YtnekegldodbgjaaJ18
import Derived.Test.YtnekegldodbgjaaJ28
set_option linter.all false
namespace Go.X
open Go Go.Proofs
def wB (T : Nat) (W : Nat -> Int) : Blk := .rows T 1 (fun j => [.int .u32 (W j)]) false true
section
variable (N C T i oN : Nat) (W of : Nat -> Int)
theorem p38_a : walk (lookF FL) noSc 1000 x38 (argTm 0 [L41 N C]) (mkH [(41, wB T W)]) 100 ⟨[], [], [], []⟩ ⟨[], [], [], []⟩ ⟨[8, 3, 7, 6], [], [], [41]⟩ =
    some ⟨⟨[some (true, .int .i64 0), some (true, .slice none 0 0), some (true, .int .i64 (N : Int)), some (true, L41 N C)], [], .normal, 100⟩, some (x38_12, [.bl 0, .sq x38_17])⟩ := by kernel_rfl
theorem p38_n : walk (lookF FL) noSc 1000 x38_12 (mkT [8, 3, 7, 6] [.int .i64 (i : Int), .slice none 0 0, .int .i64 (N : Int), L41 N C]) (mkH [(41, wB T W)]) 102 ⟨[8, 3], [.tmp 3], [7, 6], [41]⟩ ⟨[], [], [], []⟩ ⟨[], [], [], []⟩ =
    bif decide ((i : Int) < (N : Int)) then bif ((0 + i).blt T && true || false) && ((intRange (i : Int) N && true || false) && true) then
      some ⟨⟨[some (true, .int .i64 (IntKind.i64.wrap ((i : Int) + 1))), some (true, newS 103 4)], [(103, some (.rows 4 1 (rowCat (fun _ => []) 0 0 (w4 (W (0 + i)))) true false))], .normal, 104⟩, none⟩ else none else none := by kernel_rfl
theorem p38_b : walk (lookF FL) noSc 1000 x38_12 (mkT [8, 3, 7, 6] [.int .i64 (i : Int), newS 101 oN, .int .i64 (N : Int), L41 N C]) (mkH [(101, outB oN of), (41, wB T W)]) 102 ⟨[8, 3], [.tmp 3], [7, 6], [41]⟩ ⟨[], [], [], []⟩ ⟨[], [], [], []⟩ =
    bif decide ((i : Int) < (N : Int)) then bif ((0 + i).blt T && true || false) && ((intRange (i : Int) N && true || false) && true) then bif !(oN + 4).ble oN && true && (oN.ble oN && (0 + oN).ble oN) && true && decide ((oN + 4) * 3 <= 1099511627776) && true && true then
      some ⟨⟨[some (true, .int .i64 (IntKind.i64.wrap ((i : Int) + 1))), some (true, newS 103 (oN + 4))], [(103, some (.rows (oN + 4) 1 (rowCat (fun j => [.int .u8 (of j)]) 0 oN (w4 (W (0 + i)))) true false))], .normal, 104⟩, none⟩ else none else none
    else some ⟨⟨[some (true, .int .i64 (i : Int)), some (true, newS 101 oN)], [(101, some (outB oN of))], .exit 0, 102⟩, none⟩ := by kernel_rfl
theorem p38_e : walk (lookF FL) noSc 1000 x38_17 (mkT [8, 3, 7, 6] [.int .i64 (i : Int), newS 101 oN, .int .i64 (N : Int), L41 N C]) (mkH [(101, outB oN of), (41, wB T W)]) 102 ⟨[], [], [], []⟩ ⟨[2], [.tmp 3], [], []⟩ ⟨[], [], [], []⟩ =
    some ⟨⟨[some (true, newS 101 oN)], [(101, some (outB oN of))], .ret, 102⟩, none⟩ := by kernel_rfl
end
def bw (W : Nat -> Int) : Nat -> Nat -> Int
  | 0 => fun _ => 0
  | i + 1 => add4 (bw W i) (4 * i) (W i)
def S38 (N C T : Nat) (W : Nat -> Int) : Nat -> St
  | 0 => ⟨mkT [8, 3, 7, 6] [.int .i64 ((0 : Nat) : Int), .slice none 0 0, .int .i64 (N : Int), L41 N C], mkH [(41, wB T W)], 102⟩
  | i + 1 => ⟨mkT [8, 3, 7, 6] [.int .i64 ((i + 1 : Nat) : Int), newS 101 (4 * (i + 1)), .int .i64 (N : Int), L41 N C], mkH [(101, outB (4 * (i + 1)) (bw W (i + 1))), (41, wB T W)], 102⟩
theorem bis_wB {P : Program} {σ : Nm} {T : Nat} {W : Nat -> Int} : BIs P σ (wB T W) (wB T W) := bis_rw fun _ _ => rfl
theorem bw_at (W : Nat -> Int) : ∀ N j, j < 4 * N -> bw W N j = byteOf (W (j / 4)) (j % 4)
  | 0, j, h => by omega
  | N + 1, j, h => by
    show (bif Nat.blt j (4 * N) then bw W N j else byteOf (W N) (j - 4 * N)) = _
    by_cases h1 : j < 4 * N
    · rw [lt_blt h1, cond_true, bw_at W N j h1]
    · rw [blt_ff h1, cond_false, show j / 4 = N by omega, show j - 4 * N = j % 4 by omega]
theorem b38 {N C T : Nat} {W : Nat -> Int} (h0 : 0 < N) (hT : N <= T) (hN : N <= 10000000000) :
    Body Try.prog 38 [L41 N C] (mkH [(41, wB T W)]) (newS 100 (4 * N)) (mkH [(100, outB (4 * N) (bw W N))]) 100 1 := by
  refine body_of_ro [] mixed fx38 (by simp) ?_ fun E Q hP hn hcl hfin => ?_
  · intro id blk h hro
    simp only [mkH, hget] at h
    revert h
    cases Nat.beq 41 id <;> intro h
    · cases h
    · cases h; cases hro
  have hF : FnsOK E.P (lookF FL) noSc := hP ▸ FOK
  refine xwp_toLoop (s := ⟨_, _, _⟩) hF 1000 (p38_a N C T W) (S38 N C T W 0) ⟨_, [(41, wB T W)], 102, rfl, by rw [hn]; rfl, by rw [hn]; exact ⟨rfl, rfl, rfl, rfl, trivial⟩, by rw [hn, hP]; exact ⟨bis_wB, trivial⟩⟩ ?_
  refine xwp_loopR (ι := Nat) (S38 N C T W) (fun i => i <= N) (fun i => N - i) 0 (Nat.zero_le _) fun i hi => ?_
  have hcr := cl_round (S := S38 N C T W) (I := fun i => i <= N) (μ := fun i => N - i) (i := i) (cl_ctx hcl [.bl 0, .sq x38_17])
  match i, hi with
  | 0, _ =>
    have e := p38_n N C T 0 W
    have i2 : intRange ((0 : Nat) : Int) N = true := by rw [ir_nat]; exact decide_eq_true h0
    rw [decide_eq_true (show ((0 : Nat) : Int) < N by omega), i2, Nat.zero_add, lt_blt (show 0 < T by omega)] at e
    simp only [Bool.and_self, Bool.or_false, cond_true] at e
    have hb : ∀ {σ : Nm}, BIs Try.prog σ (outB (4 * (0 + 1)) (bw W (0 + 1))) (.rows 4 1 (rowCat (fun _ => []) 0 0 (w4 (W 0))) true false) := fun {σ} => bis_add (n := 0) (of := bw W 0) (w := W 0) (fun j hj => absurd hj (Nat.not_lt_zero _))
    exact xwp_toEnd (s := S38 N C T W 0) hcr hF 1000 e (S38 N C T W 1) ⟨_, [(101, outB (4 * (0 + 1)) (bw W (0 + 1))), (41, wB T W)], 102, rfl, by rw [hn]; rfl, by rw [hn]; exact ⟨rfl, rfl, rfl, rfl, trivial⟩, by rw [hn, hP]; exact ⟨hb, bis_wB, trivial⟩⟩ ⟨1, by omega, by simp only; omega, Wk.refl _ _⟩
  | k + 1, hk =>
    have e := p38_b N C T (k + 1) (4 * (k + 1)) W (bw W (k + 1))
    by_cases hlt : k + 1 < N
    · have i2 : intRange ((k + 1 : Nat) : Int) N = true := by rw [ir_nat]; exact decide_eq_true hlt
      rw [decide_eq_true (show ((k + 1 : Nat) : Int) < N by omega), i2, Nat.zero_add, lt_blt (show k + 1 < T by omega), wrap_i (n := ((k + 1 : Nat) : Int) + 1) (by omega) (by omega),
        show (4 * (k + 1) + 4).ble (4 * (k + 1)) = false by rw [ble_dec]; simp, show (4 * (k + 1)).ble (4 * (k + 1)) = true by rw [ble_dec]; simp, Nat.zero_add, show (4 * (k + 1)).ble (4 * (k + 1)) = true by rw [ble_dec]; simp, decide_eq_true (show (4 * (k + 1) + 4) * 3 <= 1099511627776 by omega)] at e
      simp only [Bool.and_self, Bool.or_false, Bool.not_false, cond_true] at e
      have hb : ∀ {σ : Nm}, BIs Try.prog σ (outB (4 * (k + 1 + 1)) (bw W (k + 1 + 1))) (.rows (4 * (k + 1) + 4) 1 (rowCat (fun j => [.int .u8 (bw W (k + 1) j)]) 0 (4 * (k + 1)) (w4 (W (k + 1)))) true false) := fun {σ} => bis_add (n := 4 * (k + 1)) (of := bw W (k + 1)) (w := W (k + 1)) (fun j hj => rfl)
      exact xwp_toEnd (s := S38 N C T W (k + 1)) hcr hF 1000 e (S38 N C T W (k + 1 + 1)) ⟨_, [(101, outB (4 * (k + 1 + 1)) (bw W (k + 1 + 1))), (41, wB T W)], 102, rfl, by rw [hn]; rfl, by rw [hn]; exact ⟨rfl, rfl, rfl, rfl, trivial⟩, by rw [hn, hP]; exact ⟨hb, bis_wB, trivial⟩⟩ ⟨k + 1 + 1, by omega, by simp only; omega, Wk.refl _ _⟩
    · have : k + 1 = N := by omega
      subst this
      rw [decide_eq_false (show ¬ ((k + 1 : Nat) : Int) < (k + 1 : Nat) by omega), cond_false] at e
      refine xwp_toEnd (s := S38 (k + 1) C T W (k + 1)) hcr hF 1000 e (S38 (k + 1) C T W (k + 1)) ⟨_, [(101, outB (4 * (k + 1)) (bw W (k + 1))), (41, wB T W)], 102, rfl, by rw [hn]; rfl, by rw [hn]; exact ⟨rfl, rfl, rfl, rfl, trivial⟩, by rw [hn, hP]; exact ⟨bis_outB, bis_wB, trivial⟩⟩ ?_
      show XWP E.toEnv x38_17 Q (S38 (k + 1) C T W (k + 1))
      exact xwp_toEnd (s := S38 (k + 1) C T W (k + 1)) hcl hF 1000 (p38_e (k + 1) C T (k + 1) (4 * (k + 1)) W (bw W (k + 1))) ⟨mkT [2] [newS 100 (4 * (k + 1))], mkH [(100, outB (4 * (k + 1)) (bw W (k + 1)))], 101⟩ ⟨_, [(100, outB (4 * (k + 1)) (bw W (k + 1)))], 101, rfl, by rw [hn]; rfl, by rw [hn]; exact ⟨rfl, trivial⟩, by rw [hn, hP]; exact ⟨bis_outB, trivial⟩⟩ (hfin _ _ (fin_of rfl (by exact ⟨rfl, trivial⟩) (by rw [hn]) rfl))
section
variable (I : Its)
theorem keq_self (s : ByteArray) : keq (.string s) (.string s) = true := (keq_eq (d := .string) rfl rfl).2 rfl
variable (N : Nat)
variable {I N}
end
section
variable {I : Its} {N : Nat}
end
theorem ok28_0 : okI ⟨28, 0, 0, 0, 0⟩ = true := by kernel_rfl
theorem good28_0 : goodF ⟨#[]⟩ 28 0 0 0 0 ⟨#[]⟩ 0 = true := by kernel_rfl
section
variable (n : Nat)
end
def ptI (n : Nat) : Its := ⟨fun k => bif Nat.beq k (n + 2) then ⟨#[120]⟩ else ⟨#[]⟩, fun k => bif Nat.blt k 2 then ⟨#[120]⟩ else ⟨#[]⟩, fun k => bif Nat.beq k 0 then 51 else bif Nat.beq k (n + 2) then 0 else 28,
  fun k => bif Nat.blt k 2 then 5 else 0, fun k => bif Nat.beq k 1 then 5 else 0, fun _ => 0, fun _ => 0, fun k => bif Nat.beq k 0 then 1 else bif Nat.beq k 1 then 2 else 0⟩
theorem isE_x : isE ⟨#[120]⟩ = false := by kernel_rfl
theorem isE_n : isE ⟨#[]⟩ = true := by kernel_rfl
theorem ptg_0 : goodF ⟨#[]⟩ 51 5 0 0 0 ⟨#[120]⟩ 1 = true := by kernel_rfl
theorem ptg_1 : goodF ⟨#[]⟩ 28 5 5 0 0 ⟨#[120]⟩ 2 = true := by kernel_rfl
theorem ptg_2 : goodF ⟨#[120]⟩ 0 0 0 0 0 ⟨#[]⟩ 0 = true := by kernel_rfl
section
variable (n : Nat)
theorem pt_mid {k : Nat} (h1 : 2 <= k) (h2 : k ≠ n + 2) : (ptI n).lb k = ⟨#[]⟩ /\ (ptI n).to k = ⟨#[]⟩ /\ (ptI n).op k = 28 /\ (ptI n).rd k = 0 /\ (ptI n).rs1 k = 0 /\ (ptI n).part k = 0 := by
  simp only [ptI, beq_dec, blt_dec]
  rw [decide_eq_false h2, decide_eq_false (show ¬ k < 2 by omega), decide_eq_false (show k ≠ 0 by omega), decide_eq_false (show k ≠ 1 by omega)]
  exact ⟨rfl, rfl, rfl, rfl, rfl, rfl⟩
theorem pt_end : (ptI n).lb (n + 2) = ⟨#[120]⟩ /\ (ptI n).to (n + 2) = ⟨#[]⟩ /\ (ptI n).op (n + 2) = 0 /\ (ptI n).rd (n + 2) = 0 /\ (ptI n).rs1 (n + 2) = 0 /\ (ptI n).part (n + 2) = 0 := by
  simp only [ptI, beq_dec, blt_dec]
  rw [decide_eq_true trivial, decide_eq_false (show ¬ n + 2 < 2 by omega), decide_eq_false (show n + 2 ≠ 0 by omega), decide_eq_false (show n + 2 ≠ 1 by omega)]
  exact ⟨rfl, rfl, rfl, rfl, rfl, rfl⟩
theorem pt_lb0 : (ptI n).lb 0 = ⟨#[]⟩ /\ (ptI n).lb 1 = ⟨#[]⟩ := by
  simp only [ptI, beq_dec]
  rw [decide_eq_false (show ¬ 0 = n + 2 by omega), decide_eq_false (show ¬ 1 = n + 2 by omega)]
  exact ⟨rfl, rfl⟩
theorem pt_op1 : (ptI n).op 1 = 28 := by
  simp only [ptI, beq_dec]
  rw [decide_eq_false (show ¬ 1 = 0 by omega), decide_eq_false (show ¬ 1 = n + 2 by omega)]; rfl
theorem pt_lb {k : Nat} (h : k ≠ n + 2) : (ptI n).lb k = ⟨#[]⟩ := by
  simp only [ptI, beq_dec]; rw [decide_eq_false h]; rfl
theorem pt_good (k : Nat) (hk : k < n + 3) : goodK (ptI n) k = true := by
  unfold goodK
  by_cases h0 : k = 0
  · subst h0; rw [(pt_lb0 n).1]; exact ptg_0
  by_cases h1 : k = 1
  · subst h1; rw [(pt_lb0 n).2, pt_op1]; exact ptg_1
  by_cases h2 : k = n + 2
  · subst h2; obtain ⟨a, b, c, d, e, f⟩ := pt_end n; rw [a, b, c, d, e, f]; exact ptg_2
  · obtain ⟨a, b, c, d, e, f⟩ := pt_mid n (k := k) (by omega) h2; rw [a, b, c, d, e, f]; exact good28_0
theorem pt_goodTo : ∀ k, k <= n + 3 -> goodTo (ptI n) k = true
  | 0, _ => rfl
  | k + 1, hk => by simp only [goodTo, pt_goodTo k (by omega), pt_good n k (by omega), Bool.and_self]
theorem pt_chk : ∀ k, k <= n + 2 -> chkIt (ptI n) m0 k = ⟨m0, false⟩
  | 0, _ => rfl
  | k + 1, hk => by
    simp only [chkIt, chkStep, pt_chk k (by omega), cond_false, pt_lb n (k := k) (by omega), isE_n, cond_true]
    rfl
theorem pt_chkE : chkIt (ptI n) m0 (n + 3) = ⟨m0.set ⟨#[120]⟩ 0, false⟩ := by
  show chkStep (ptI n) (n + 2) (chkIt (ptI n) m0 (n + 2)) = _
  rw [pt_chk n (n + 2) (Nat.le_refl _)]
  simp only [chkStep, cond_false, (pt_end n).1, isE_x]
  rfl
theorem pt_found : ∀ k, k <= n + 3 -> foundTo (ptI n) (m0.set ⟨#[120]⟩ 0) k = true
  | 0, _ => rfl
  | k + 1, hk => by
    simp only [foundTo, pt_found k (by omega), Bool.true_and]
    by_cases h : k < 2
    · have : (ptI n).to k = ⟨#[120]⟩ := by simp only [ptI, blt_dec]; rw [decide_eq_true h]; rfl
      rw [this]
      show (_ || (keq (.string ⟨#[120]⟩) (.string ⟨#[120]⟩) || false)) = true
      rw [keq_self]; simp
    · have : (ptI n).to k = ⟨#[]⟩ := by simp only [ptI, blt_dec]; rw [decide_eq_false h]; rfl
      rw [this, isE_n]; rfl
variable {x : Int} (hx : ∃ t, x = 4 * t /\ 0 <= t /\ t < 1000000) (hn : n < 1500)
include hx hn
theorem pt_bad : badAt x = false := by
  obtain ⟨t, rfl, h0, h1⟩ := hx
  unfold badAt
  rw [Int.tmod_eq_emod_of_nonneg (by omega), show (4 * t) % 4 = 0 by omega, decide_eq_false (show ¬ 4 * t < 0 by omega), decide_eq_false (show ¬ 4 * t > 4194304 by omega)]; rfl
theorem pt_check : checkE (ptI n) x (n + 3) m0 = 0 := by
  unfold checkE
  rw [pt_bad n hx hn, pt_goodTo n (n + 3) (Nat.le_refl _), pt_chkE, pt_found n (n + 3) (Nat.le_refl _), decide_eq_false (show ¬ ((n + 3 : Nat) : Int) > 65536 by omega)]; rfl
theorem pt_checkM : checkM (ptI n) x (n + 3) m0 = m0.set ⟨#[120]⟩ 0 := by
  unfold checkM chkLate
  rw [pt_bad n hx hn, pt_goodTo n (n + 3) (Nat.le_refl _), pt_chkE, decide_eq_false (show ¬ ((n + 3 : Nat) : Int) > 65536 by omega)]; rfl
theorem pt_lay : ∀ k, k <= n + 2 -> (layIt (ptI n) (fun _ => false) ⟨x, m0.set ⟨#[120]⟩ 0, fun _ => 0⟩ k).cur = x + 4 * k /\ (layIt (ptI n) (fun _ => false) ⟨x, m0.set ⟨#[120]⟩ 0, fun _ => 0⟩ k).m = m0.set ⟨#[120]⟩ 0
  | 0, _ => ⟨by show x = x + 4 * ((0 : Nat) : Int); omega, rfl⟩
  | k + 1, hk => by
    obtain ⟨h1, h2⟩ := pt_lay k (by omega)
    obtain ⟨t, hxt, h0, h4⟩ := hx
    simp only [layIt, layStep, pt_lb n (k := k) (by omega), isE_n, cond_true, cond_false, h1, h2]
    exact ⟨by rw [wrap_i (by omega) (by omega)]; omega, trivial⟩
theorem pt_layM : (layIt (ptI n) (fun _ => false) ⟨x, m0.set ⟨#[120]⟩ 0, fun _ => 0⟩ (n + 3)).m = (m0.set ⟨#[120]⟩ 0).set ⟨#[120]⟩ (x + 4 * ((n + 2 : Nat) : Int)) := by
  obtain ⟨h1, h2⟩ := pt_lay n hx hn (n + 2) (Nat.le_refl _)
  show (layStep (ptI n) (fun _ => false) (n + 2) (layIt (ptI n) (fun _ => false) ⟨x, m0.set ⟨#[120]⟩ 0, fun _ => 0⟩ (n + 2))).m = _
  simp only [layStep, (pt_end n).1, isE_x, cond_false, h1, h2]
omit hx hn in
theorem pt_far (m : LMap) (pl : Nat -> Int) (wd : Nat -> Bool) (k : Nat) : farF (ptI n) m pl wd k = false := by
  unfold farF
  by_cases h0 : k = 0
  · subst h0; rw [show branchF ((ptI n).op 0) = false from rfl]; simp
  by_cases h1 : k = 1
  · subst h1; rw [pt_op1, show branchF 28 = false from rfl]; simp
  · have : (ptI n).to k = ⟨#[]⟩ := by simp only [ptI, blt_dec]; rw [decide_eq_false (show ¬ k < 2 by omega)]; rfl
    rw [this, isE_n]; simp
omit hx hn in
theorem pt_wid (m : LMap) (pl : Nat -> Int) (wd : Nat -> Bool) : ∀ k, widIt (ptI n) m pl ⟨false, wd⟩ k = ⟨false, wd⟩
  | 0 => rfl
  | k + 1 => by simp only [widIt, pt_wid m pl wd k, widStep, pt_far, cond_false]
omit hx hn in
theorem pt_fin0 : finA (ptI n) x (n + 3) = startA (ptI n) x (n + 3) := by
  unfold finA
  refine fixN_done (n + 3) x (ptI n) ?_
  show (widIt (ptI n) _ _ ⟨false, _⟩ (n + 3)).more = false
  rw [pt_wid]
def ptV (x : Int) (n : Nat) : Int := x + 4 * ((n + 2 : Nat) : Int)
def ptM (x : Int) (n : Nat) : LMap := (m0.set ⟨#[120]⟩ 0).set ⟨#[120]⟩ (ptV x n)
theorem pt_fin : (finA (ptI n) x (n + 3)).m = ptM x n /\ (finA (ptI n) x (n + 3)).wd = fun _ => false := by
  rw [pt_fin0]
  unfold startA
  rw [pt_checkM n hx hn]
  exact ⟨pt_layM n hx hn, rfl⟩
omit hx hn in
theorem ptM_val : (ptM x n).val (.string ⟨#[120]⟩) = ptV x n := by
  show (bif keq (.string ⟨#[120]⟩) (.string ⟨#[120]⟩) then ptV x n else (m0.set ⟨#[120]⟩ 0).val (.string ⟨#[120]⟩)) = ptV x n
  rw [keq_self]; rfl
def ptL (x : Int) (n : Nat) : Nat -> List Ins
  | 0 => []
  | 1 => [⟨51, 5, 0, 0, upperF (ptV x n)⟩]
  | k + 2 => [⟨51, 5, 0, 0, upperF (ptV x n)⟩, ⟨28, 5, 5, 0, lowerF (ptV x n)⟩] ++ List.replicate k ⟨28, 0, 0, 0, 0⟩
theorem pt_ins : ∀ k, k <= n + 2 -> insTo (ptI n) (finA (ptI n) x (n + 3)) k = ptL x n k := by
  obtain ⟨hm, hw⟩ := pt_fin n hx hn
  have two : ∀ k, twoF (ptI n) (finA (ptI n) x (n + 3)).wd k = false := fun k => by unfold twoF; rw [hw]; simp
  have one : ∀ k, k < n + 2 -> insTo (ptI n) (finA (ptI n) x (n + 3)) (k + 1) = insTo (ptI n) (finA (ptI n) x (n + 3)) k ++ [wordA (ptI n) (finA (ptI n) x (n + 3)).wd (finA (ptI n) x (n + 3)).m (finA (ptI n) x (n + 3)).pl k] := fun k hk => by
    simp only [insTo, pt_lb n (k := k) (by omega), isE_n, cond_true, wordsN, two, cond_false]
    rfl
  intro k
  induction k with
  | zero => intro _; rfl
  | succ k ih =>
    intro hk
    rw [one k (by omega), ih (by omega)]
    by_cases h0 : k = 0
    · subst h0
      have : wordA (ptI n) (finA (ptI n) x (n + 3)).wd (finA (ptI n) x (n + 3)).m (finA (ptI n) x (n + 3)).pl 0 = ⟨51, 5, 0, 0, upperF (ptV x n)⟩ := by
        unfold wordA
        rw [show (ptI n).to 0 = ⟨#[120]⟩ from rfl, isE_x, hm, ptM_val]; rfl
      rw [this]; rfl
    by_cases h1 : k = 1
    · subst h1
      have : wordA (ptI n) (finA (ptI n) x (n + 3)).wd (finA (ptI n) x (n + 3)).m (finA (ptI n) x (n + 3)).pl 1 = ⟨28, 5, 5, 0, lowerF (ptV x n)⟩ := by
        unfold wordA
        rw [show (ptI n).to 1 = ⟨#[120]⟩ from rfl, isE_x, hm, ptM_val, pt_op1]; rfl
      rw [this]; rfl
    · obtain ⟨j, rfl⟩ : ∃ j, k = j + 2 := ⟨k - 2, by omega⟩
      obtain ⟨a, b, c, d, e, f⟩ := pt_mid n (k := j + 2) (by omega) (by omega)
      have : wordA (ptI n) (finA (ptI n) x (n + 3)).wd (finA (ptI n) x (n + 3)).m (finA (ptI n) x (n + 3)).pl (j + 2) = ⟨28, 0, 0, 0, 0⟩ := by
        unfold wordA
        rw [b, isE_n, c, d, e]; rfl
      rw [this]
      show ([_, _] ++ List.replicate j _) ++ [_] = [_, _] ++ List.replicate (j + 1) _
      rw [List.append_assoc, List.replicate_succ', ]
theorem pt_insN : insTo (ptI n) (finA (ptI n) x (n + 3)) (n + 3) = ptL x n (n + 2) := by
  show insTo (ptI n) (finA (ptI n) x (n + 3)) (n + 2) ++ _ = _
  rw [pt_ins n hx hn (n + 2) (Nat.le_refl _), (pt_end n).1, isE_x]; simp
end
def chkP (k : Nat) : Bool := lowerF (4 * (k : Int)) == (4 * (k : Int) + 2048) % 4096 - 2048 && (upperF (4 * (k : Int)) == (4 * (k : Int) + 2048) / 4096 && (okI ⟨28, 5, 5, 0, lowerF (4 * (k : Int))⟩ && okI ⟨51, 5, 0, 0, upperF (4 * (k : Int))⟩))
theorem chkP_all : ((List.range 2600).all chkP) = true := by kernel_rfl
theorem chkP_at {k : Nat} (h : k < 2600) : lowerF (4 * (k : Int)) = (4 * (k : Int) + 2048) % 4096 - 2048 /\ upperF (4 * (k : Int)) = (4 * (k : Int) + 2048) / 4096 /\ okI ⟨28, 5, 5, 0, lowerF (4 * (k : Int))⟩ = true /\ okI ⟨51, 5, 0, 0, upperF (4 * (k : Int))⟩ = true := by
  have := List.all_eq_true.1 chkP_all k (List.mem_range.2 h)
  simp only [chkP, Bool.and_eq_true, beq_iff_eq] at this
  exact this
theorem ptV_eq (t n : Nat) : ptV (4 * (t : Int)) n = 4 * ((t + (n + 2) : Nat) : Int) := by unfold ptV; omega
section
variable {t n : Nat} (ht : t < 1000) (hn : n < 1500)
include ht hn
theorem pt_ex : ∃ s : Int, 4 * (t : Int) = 4 * s /\ 0 <= s /\ s < 1000000 := ⟨t, rfl, by omega, by omega⟩
theorem pt_all : ((ptL (4 * (t : Int)) n (n + 2)).all okI) = true := by
  obtain ⟨_, _, c, d⟩ := chkP_at (k := t + (n + 2)) (by omega)
  have e : (List.replicate n (⟨28, 0, 0, 0, 0⟩ : Ins)).all okI = true := List.all_eq_true.2 fun i hi => by rw [(List.mem_replicate.1 hi).2]; exact ok28_0
  show (([⟨51, 5, 0, 0, upperF (ptV (4 * (t : Int)) n)⟩, ⟨28, 5, 5, 0, lowerF (ptV (4 * (t : Int)) n)⟩] ++ List.replicate n ⟨28, 0, 0, 0, 0⟩ : List Ins).all okI) = true
  rw [List.all_append, e, ptV_eq]
  simp only [List.all_cons, List.all_nil, c, d, Bool.and_true]
theorem pt_len : (asmW (ptI n) (4 * (t : Int)) (n + 3)).length = n + 2 := by
  unfold asmW
  rw [pt_insN n (pt_ex ht hn) hn]
  simp [ptL]
theorem pt_asmE : asmE (ptI n) (4 * (t : Int)) (n + 3) = 0 := by
  unfold asmE
  rw [pt_check n (pt_ex ht hn) hn, pt_insN n (pt_ex ht hn) hn, pt_all ht hn, pt_len ht hn, decide_eq_false (show ¬ ((n + 2 : Nat) : Int) > 65536 by omega)]; rfl
theorem pt_word : (asmW (ptI n) (4 * (t : Int)) (n + 3)).getD 0 0 = encW ⟨51, 5, 0, 0, upperF (4 * ((t + (n + 2) : Nat) : Int))⟩ /\ (asmW (ptI n) (4 * (t : Int)) (n + 3)).getD 1 0 = encW ⟨28, 5, 5, 0, lowerF (4 * ((t + (n + 2) : Nat) : Int))⟩ := by
  unfold asmW
  rw [pt_insN n (pt_ex ht hn) hn, <- ptV_eq]
  exact ⟨rfl, rfl⟩
end
def mW (W : Nat -> Int) (k sz : Nat) : MS := newM 0 (4 * k) (bw W k) sz
theorem byteOf_X (w : Int) : ∀ j, j < 4 -> byteOf w j = byteX w j
  | 0, _ => by rw [show byteX w 0 = IntKind.u8.wrap (w.fdiv 1) from rfl, Int.fdiv_one]; rfl
  | 1, _ => rfl
  | 2, _ => rfl
  | 3, _ => rfl
  | j + 4, h => by omega
theorem w32_word {W : Nat -> Int} {k sz i : Nat} (hi : i < k) (hW : 0 <= W i /\ W i < 4294967296) {m : MS} (hm : m.mem = (mW W k sz).mem) (hp : m.pl = 4 * (i : Int)) : w32 m = W i := by
  unfold w32
  rw [hm, hp, show (4 * (i : Int)).toNat * 1 = 4 * i by omega]
  rw [num4_val hW.1 (by omega) fun j hj => by
    show (bif Nat.blt (4 * i + j) (4 * k) then bw W k (0 + (4 * i + j)) else 0) = _
    rw [lt_blt (by omega), cond_true, Nat.zero_add, bw_at W k _ (by omega), show (4 * i + j) / 4 = i by omega, show (4 * i + j) % 4 = j by omega, byteOf_X _ j hj]]
  rw [u32_wrap]; omega
theorem okI_dec {i : Ins} (h : okI i = true) : decA (encW i) = ⟨i.op, ⟨i.rd, i.rs1, i.rs2, i.imm⟩, 0⟩ := by
  refine encdec (Prod.ext rfl ?_)
  simpa [okI] using h
theorem stepP1 {w : Bool} {s : RSt} {q : Int} {c : Cand} (hp : plB s.m.sz s.m.pl 4 = true) (hd : decA (w32 s.m) = ⟨q, c, 0⟩) (h1 : plainB q = true) :
    stepF (e0 w) s = (true, { s with m := stepM s.m s.m.kn' q c, mark := markF q c s.mark }) := by
  unfold stepF stepG
  rw [hp, hd]
  simp only [cond_true, show ((0 : Int) == 0) = true from rfl, h1]
structure End14 (m : MS) (v : Int) (s : RSt) : Prop where
  n : runM false m 2 = (s, 2)
  oN : s.oN = 0
  x5 : s.m.x 5 = v
theorem end14 {W : Nat -> Int} {k : Nat} (hk : 2 <= k) {v : Nat} (hv : v < 2600) (h0 : W 0 = encW ⟨51, 5, 0, 0, upperF (4 * (v : Int))⟩) (h1 : W 1 = encW ⟨28, 5, 5, 0, lowerF (4 * (v : Int))⟩) (hu0 : 0 <= W 0 /\ W 0 < 4294967296) (hu1 : 0 <= W 1 /\ W 1 < 4294967296) :
    ∃ s, End14 (mW W k (4 * k)) (4 * (v : Int)) s := by
  obtain ⟨hl, hu, o28, o51⟩ := chkP_at hv
  let m := mW W k (4 * k)
  have d0 : decA (w32 (RSt.init m).m) = ⟨51, ⟨5, 0, 0, upperF (4 * (v : Int))⟩, 0⟩ := by
    rw [w32_word (W := W) (k := k) (sz := 4 * k) (i := 0) (by omega) hu0 (m := (RSt.init m).m) rfl rfl, h0]; exact okI_dec o51
  have p0 : plB m.sz m.pl 4 = true := by
    show ((0 : Int) % 4 == 0 && (decide ((0 : Int) <= 0) && decide ((0 : Int) + 4 <= ((4 * k : Nat) : Int)))) = true
    rw [decide_eq_true (show (0 : Int) + 4 <= ((4 * k : Nat) : Int) by omega)]; rfl
  have e0 := stepP1 (w := false) (s := RSt.init m) p0 d0 rfl
  obtain ⟨t1, ht1⟩ : ∃ t1 : RSt, t1 = { RSt.init m with m := stepM m m.kn' 51 ⟨5, 0, 0, upperF (4 * (v : Int))⟩, mark := markF 51 ⟨5, 0, 0, upperF (4 * (v : Int))⟩ (RSt.init m).mark } := ⟨_, rfl⟩
  have e0' : stepF (Go.X.e0 false) (RSt.init m) = (true, t1) := by rw [ht1]; exact e0
  have x5 : t1.m.x 5 = IntKind.u64.wrap (ofF (upperF (4 * (v : Int))) * 4096) := by rw [ht1]; rfl
  have pl1 : t1.m.pl = 4 := by rw [ht1]; rfl
  have mem1 : t1.m.mem = m.mem := by rw [ht1]; rfl
  have sz1 : t1.m.sz = 4 * k := by rw [ht1]; rfl
  have d1 : decA (w32 t1.m) = ⟨28, ⟨5, 5, 0, lowerF (4 * (v : Int))⟩, 0⟩ := by
    rw [w32_word (W := W) (k := k) (sz := 4 * k) (i := 1) (by omega) hu1 mem1 (by rw [pl1]; rfl), h1]; exact okI_dec o28
  have p1 : plB t1.m.sz t1.m.pl 4 = true := by
    rw [sz1, pl1]
    show ((4 : Int) % 4 == 0 && (decide ((0 : Int) <= 4) && decide ((4 : Int) + 4 <= ((4 * k : Nat) : Int)))) = true
    rw [decide_eq_true (show (4 : Int) + 4 <= ((4 * k : Nat) : Int) by omega)]; rfl
  have e1 := stepP1 (w := false) p1 d1 rfl
  refine ⟨{ t1 with m := stepM t1.m t1.m.kn' 28 ⟨5, 5, 0, lowerF (4 * (v : Int))⟩, mark := markF 28 ⟨5, 5, 0, lowerF (4 * (v : Int))⟩ t1.mark }, ?_, ?_, ?_⟩
  · unfold runM
    rw [runF_go rfl e0', runF_go (by rw [ht1]; rfl) e1]; rfl
  · rw [ht1]; rfl
  · show IntKind.u64.wrap (t1.m.x 5 + ofF (lowerF (4 * (v : Int)))) = _
    rw [x5]
    unfold ofF
    rw [hl, hu]
    simp only [u64w]
    omega
def itB8 (I : Its) (l : Nat) : Blk := .rows l 8 I.row true false
abbrev sl60 (l : Nat) : Value := .slice (some ⟨60, 0, none⟩) l l
def lbR (s : ByteArray) : Nat -> List Value := fun j => slab [.string s, .int .i64 0, .int .i64 0, .int .i64 0, .int .i64 0, .int .i64 0, .string ⟨#[]⟩, .int .i64 0] ((0 + j) * 8) 8
def f17 (I : Its) (l : Nat) (s : ByteArray) : Nat -> List Value := rowCat I.row 0 l (lbR s)
noncomputable abbrev sc14a (l : Nat) (x : Int) (f : Nat -> List Value) (k : Nat) (W : Nat -> Int) (lm : LMap) : Short := scOf [conAt 17 [.slice (some ⟨62, 0, none⟩) (l + 1) (l + 1), .int .i64 x] [(62, .rows (l + 1) 8 f true false)]
  (.tuple ⟨[.slice (some ⟨63, 0, none⟩) k k, .map (some 64), .int .i64 0]⟩) (mkH [(63, .rows k 1 (fun j => [.int .u32 (W j)]) true false), (64, lm.blk)]) 63 2]
def wB0 (k : Nat) (W : Nat -> Int) : Blk := .rows k 1 (fun j => [.int .u32 (W j)]) true false
noncomputable abbrev sc14b (k : Nat) (W : Nat -> Int) (sz : Nat) (m : MS) : Short := scOf [conAt 38 [sl60 k] [(60, wB0 k W)] (newS 130 (4 * k)) (mkH [(130, outB (4 * k) (bw W k))]) 130 1,
  conAt 22 [newS 130 (4 * k), .int .i64 (sz : Int)] [(130, outB (4 * k) (bw W k))] (vM3 133) (mkH [(131, m.memB), (132, m.kn.blk), (133, m.mAt 131 132)]) 131 3]
noncomputable abbrev sc14c (m : MS) (s : RSt) (k : Nat) : Short := scOf [conAt 24 [pAt 92, .slice none 0 0, .int .i64 (k : Int)] (m.HA 90 91 92) (resV24 s.m (vOa 131 false s.oN) (k : Nat) s.mark) (upd24g 90 91 92 s.m false s.oN s.of (k : Nat) s.mark) 130 2]
def u32R (x : Int) : Prop := 0 <= x /\ x < 4294967296
theorem orW_rng (a b : Int) : u32R (orW a b) := by
  have : ∀ y : Nat, u32R (IntKind.u32.wrap y) := fun y => by rw [u32_wrap]; unfold u32R; omega
  exact this _
theorem regs_rng {bad : Bool} {rd rs1 rs2 : Int} {rest : Int × Int} (h : u32R rest.1) : u32R (encRegs bad rd rs1 rs2 rest).1 := by
  have z : u32R 0 := ⟨by omega, by omega⟩
  unfold encRegs
  cases bad <;> cases noReg rd <;> cases noReg rs1 <;> cases noReg rs2 <;> first | exact z | exact h
theorem cond_rng {c : Bool} {w : Int} (h : u32R w) : u32R (bif c then ((0 : Int), (1 : Int)) else (w, 0)).1 := by
  cases c
  · exact h
  · exact ⟨by show (0 : Int) <= 0; omega, by show (0 : Int) < 4294967296; omega⟩
section
variable (o f3 f7 rd rs1 rs2 imm : Int)
theorem rngR : u32R (encR o f3 f7 rd rs1 rs2 imm).1 := regs_rng (orW_rng _ _)
theorem rngI : u32R (encI o f3 f7 rd rs1 rs2 imm).1 := regs_rng (cond_rng (orW_rng _ _))
theorem rngT : u32R (encT o f3 f7 rd rs1 rs2 imm).1 := regs_rng (cond_rng (orW_rng _ _))
theorem rngS : u32R (encS o f3 f7 rd rs1 rs2 imm).1 := regs_rng (cond_rng (orW_rng _ _))
theorem rngB : u32R (encB o f3 f7 rd rs1 rs2 imm).1 := regs_rng (cond_rng (orW_rng _ _))
theorem rngU : u32R (encU o f3 f7 rd rs1 rs2 imm).1 := regs_rng (cond_rng (orW_rng _ _))
theorem rngJ : u32R (encJ o f3 f7 rd rs1 rs2 imm).1 := regs_rng (cond_rng (orW_rng _ _))
theorem rngN : u32R (encN o f3 f7 rd rs1 rs2 imm).1 := regs_rng (orW_rng _ _)
end
theorem rng_in {rd rs1 rs2 imm : Int} : ∀ k : Nat, u32R (encF (.ofNat k) rd rs1 rs2 imm).1
  | 0 => ⟨by show (0 : Int) <= 0; omega, by show (0 : Int) < 4294967296; omega⟩
  | 1 => rngR 51 0 0 rd rs1 rs2 imm
  | 2 => rngR 51 0 32 rd rs1 rs2 imm
  | 3 => rngR 51 1 0 rd rs1 rs2 imm
  | 4 => rngR 51 2 0 rd rs1 rs2 imm
  | 5 => rngR 51 3 0 rd rs1 rs2 imm
  | 6 => rngR 51 4 0 rd rs1 rs2 imm
  | 7 => rngR 51 5 0 rd rs1 rs2 imm
  | 8 => rngR 51 5 32 rd rs1 rs2 imm
  | 9 => rngR 51 6 0 rd rs1 rs2 imm
  | 10 => rngR 51 7 0 rd rs1 rs2 imm
  | 11 => rngR 51 0 1 rd rs1 rs2 imm
  | 12 => rngR 51 1 1 rd rs1 rs2 imm
  | 13 => rngR 51 3 1 rd rs1 rs2 imm
  | 14 => rngR 51 4 1 rd rs1 rs2 imm
  | 15 => rngR 51 5 1 rd rs1 rs2 imm
  | 16 => rngR 51 6 1 rd rs1 rs2 imm
  | 17 => rngR 51 7 1 rd rs1 rs2 imm
  | 18 => rngR 59 0 0 rd rs1 rs2 imm
  | 19 => rngR 59 0 32 rd rs1 rs2 imm
  | 20 => rngR 59 1 0 rd rs1 rs2 imm
  | 21 => rngR 59 5 0 rd rs1 rs2 imm
  | 22 => rngR 59 5 32 rd rs1 rs2 imm
  | 23 => rngR 59 0 1 rd rs1 rs2 imm
  | 24 => rngR 59 4 1 rd rs1 rs2 imm
  | 25 => rngR 59 5 1 rd rs1 rs2 imm
  | 26 => rngR 59 6 1 rd rs1 rs2 imm
  | 27 => rngR 59 7 1 rd rs1 rs2 imm
  | 28 => rngI 19 0 0 rd rs1 rs2 imm
  | 29 => rngI 19 2 0 rd rs1 rs2 imm
  | 30 => rngI 19 3 0 rd rs1 rs2 imm
  | 31 => rngI 19 4 0 rd rs1 rs2 imm
  | 32 => rngI 19 6 0 rd rs1 rs2 imm
  | 33 => rngI 19 7 0 rd rs1 rs2 imm
  | 34 => rngT 19 1 0 rd rs1 rs2 imm
  | 35 => rngT 19 5 0 rd rs1 rs2 imm
  | 36 => rngT 19 5 32 rd rs1 rs2 imm
  | 37 => rngI 27 0 0 rd rs1 rs2 imm
  | 38 => rngI 3 0 0 rd rs1 rs2 imm
  | 39 => rngI 3 4 0 rd rs1 rs2 imm
  | 40 => rngI 3 2 0 rd rs1 rs2 imm
  | 41 => rngI 3 3 0 rd rs1 rs2 imm
  | 42 => rngS 35 0 0 rd rs1 rs2 imm
  | 43 => rngS 35 2 0 rd rs1 rs2 imm
  | 44 => rngS 35 3 0 rd rs1 rs2 imm
  | 45 => rngB 99 0 0 rd rs1 rs2 imm
  | 46 => rngB 99 1 0 rd rs1 rs2 imm
  | 47 => rngB 99 4 0 rd rs1 rs2 imm
  | 48 => rngB 99 5 0 rd rs1 rs2 imm
  | 49 => rngB 99 6 0 rd rs1 rs2 imm
  | 50 => rngB 99 7 0 rd rs1 rs2 imm
  | 51 => rngU 55 0 0 rd rs1 rs2 imm
  | 52 => rngU 23 0 0 rd rs1 rs2 imm
  | 53 => rngJ 111 0 0 rd rs1 rs2 imm
  | 54 => rngI 103 0 0 rd rs1 rs2 imm
  | 55 => rngN 115 0 0 rd rs1 rs2 imm
  | k + 56 => by rw [encF_big]; exact ⟨by show (0 : Int) <= 0; omega, by show (0 : Int) < 4294967296; omega⟩
theorem encF_rng (op rd rs1 rs2 imm : Int) : u32R (encF op rd rs1 rs2 imm).1 := by
  cases op with
  | ofNat k => exact rng_in k
  | negSucc m => rw [encF_neg]; exact ⟨by show (0 : Int) <= 0; omega, by show (0 : Int) < 4294967296; omega⟩
end Go.X
