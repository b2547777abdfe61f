import Derived.Test.YtnekegldodbgjaaA37
import Derived.Test.YtnekegldodbgjaaA40
set_option linter.all false
set_option linter.unusedVariables false
set_option linter.unusedSimpArgs false
namespace Go.X
open Go Go.Proofs
set_option linter.unusedVariables false
set_option linter.unusedSimpArgs false
theorem fits46 (by_ : Int) : fitsF 46 by_ = (decide (by_ ≥ -4096) && decide (by_ ≤ 4094)) := rfl
theorem fits45 (by_ : Int) : fitsF 45 by_ = (decide (by_ ≥ -4096) && decide (by_ ≤ 4094)) := rfl
theorem ok46 (t : Int) (h : -4096 ≤ 4 * t) (h' : 4 * t ≤ 4094) : okI ⟨46, 0, 5, 0, 4 * t⟩ = true := by
  unfold okI
  show ((bif decide (4 * t < -4096) || decide (4 * t > 4094) || bits2 .and .i64 (4 * t) 1 == 1 then ((0, 1) : Int × Int) else (_, 0)).2 == 0) = true
  rw [bits_and1]
  have e1 : decide (4 * t < -4096) = false := by simp; omega
  have e2 : decide (4 * t > 4094) = false := by simp; omega
  rw [e1, e2]; rfl
theorem ok45 (t : Int) (h : -4096 ≤ 4 * t) (h' : 4 * t ≤ 4094) : okI ⟨45, 0, 5, 0, 4 * t⟩ = true := by
  unfold okI
  show ((bif decide (4 * t < -4096) || decide (4 * t > 4094) || bits2 .and .i64 (4 * t) 1 == 1 then ((0, 1) : Int × Int) else (_, 0)).2 == 0) = true
  rw [bits_and1]
  have e1 : decide (4 * t < -4096) = false := by simp; omega
  have e2 : decide (4 * t > 4094) = false := by simp; omega
  rw [e1, e2]; rfl
theorem ok53 (t : Int) (h : -1048576 ≤ 4 * t) (h' : 4 * t ≤ 1048574) : okI ⟨53, 0, 0, 0, 4 * t⟩ = true := by
  unfold okI
  show ((bif decide (4 * t < -1048576) || decide (4 * t > 1048574) || bits2 .and .i64 (4 * t) 1 == 1 then ((0, 1) : Int × Int) else (_, 0)).2 == 0) = true
  rw [bits_and1]
  have e1 : decide (4 * t < -1048576) = false := by simp; omega
  have e2 : decide (4 * t > 1048574) = false := by simp; omega
  rw [e1, e2]; rfl
theorem ok28_0 : okI ⟨28, 0, 0, 0, 0⟩ = true := by kernel_rfl
theorem good28_0 : goodF ⟨#[]⟩ 28 0 0 0 0 ⟨#[]⟩ 0 = true := by kernel_rfl
theorem ok28_1 : okI ⟨28, 0, 0, 0, 1⟩ = true := by kernel_rfl
theorem good28_1 : goodF ⟨#[]⟩ 28 0 0 0 1 ⟨#[]⟩ 0 = true := by kernel_rfl
theorem ok28_2 : okI ⟨28, 0, 0, 0, 2⟩ = true := by kernel_rfl
theorem good28_2 : goodF ⟨#[]⟩ 28 0 0 0 2 ⟨#[]⟩ 0 = true := by kernel_rfl
theorem ok28_3 : okI ⟨28, 0, 0, 0, 3⟩ = true := by kernel_rfl
theorem good28_3 : goodF ⟨#[]⟩ 28 0 0 0 3 ⟨#[]⟩ 0 = true := by kernel_rfl
theorem ok28_4 : okI ⟨28, 0, 0, 0, 4⟩ = true := by kernel_rfl
theorem good28_4 : goodF ⟨#[]⟩ 28 0 0 0 4 ⟨#[]⟩ 0 = true := by kernel_rfl
theorem ok28 (i : Int) (h : 0 ≤ i) (h' : i < 5) : okI ⟨28, 0, 0, 0, i⟩ = true := by
  have : i = 0 ∨ i = 1 ∨ i = 2 ∨ i = 3 ∨ i = 4 := by omega
  rcases this with rfl | rfl | rfl | rfl | rfl
  · exact ok28_0
  · exact ok28_1
  · exact ok28_2
  · exact ok28_3
  · exact ok28_4
theorem good28 (i : Int) (h : 0 ≤ i) (h' : i < 5) : goodF ⟨#[]⟩ 28 0 0 0 i ⟨#[]⟩ 0 = true := by
  have : i = 0 ∨ i = 1 ∨ i = 2 ∨ i = 3 ∨ i = 4 := by omega
  rcases this with rfl | rfl | rfl | rfl | rfl
  · exact good28_0
  · exact good28_1
  · exact good28_2
  · exact good28_3
  · exact good28_4
theorem good_0 : goodF ⟨#[97]⟩ 0 0 0 0 0 ⟨#[]⟩ 0 = true := by kernel_rfl
theorem good_1 : goodF ⟨#[]⟩ 46 0 5 0 0 ⟨#[98]⟩ 0 = true := by kernel_rfl
theorem good_2 : goodF ⟨#[]⟩ 45 0 5 0 0 ⟨#[97]⟩ 0 = true := by kernel_rfl
theorem good_3 : goodF ⟨#[98]⟩ 0 0 0 0 0 ⟨#[]⟩ 0 = true := by kernel_rfl
theorem good_4 : goodF ⟨#[]⟩ 53 0 0 0 0 ⟨#[97]⟩ 0 = true := by kernel_rfl
section
variable (n : Nat)
theorem mvf_0 : (mvI n).lb 0 = ⟨#[97]⟩ := rfl
theorem mvf_lb {k : Nat} (h0 : k ≠ 0) (h3 : k ≠ n + 3) : (mvI n).lb k = ⟨#[]⟩ := by simp [mvI, beq_dec, h0, h3]
theorem mvf_lb3 : (mvI n).lb (n + 3) = ⟨#[98]⟩ := by simp [mvI, beq_dec]
theorem mvf_to {k : Nat} (h1 : k ≠ 1) (h2 : k ≠ n + 2) (h4 : k ≠ n + 4) : (mvI n).to k = ⟨#[]⟩ := by simp [mvI, beq_dec, h1, h2, h4]
theorem mvf_to1 : (mvI n).to 1 = ⟨#[98]⟩ := rfl
theorem mvf_to2 : (mvI n).to (n + 2) = ⟨#[97]⟩ := by simp [mvI, beq_dec]
theorem mvf_to4 : (mvI n).to (n + 4) = ⟨#[97]⟩ := by simp [mvI, beq_dec]
theorem mvf_op1 : (mvI n).op 1 = 46 := rfl
theorem mvf_op2 : (mvI n).op (n + 2) = 45 := by simp [mvI, beq_dec, blt_dec]
theorem mvf_op4 : (mvI n).op (n + 4) = 53 := by
  have : ¬ n + 4 < n + 2 := by omega
  simp [mvI, beq_dec, blt_dec, this]
theorem mvf_mid {k : Nat} (h1 : 2 ≤ k) (h2 : k < n + 2) : (mvI n).op k = 28 ∧ (mvI n).rs1 k = 0 ∧ (mvI n).imm k = ((k - 2 : Nat) : Int).tmod 5 := by
  have a1 : k ≠ 0 := by omega
  have a2 : k ≠ 1 := by omega
  have a3 : k ≠ n + 2 := by omega
  have a4 : 1 < k := by omega
  simp [mvI, beq_dec, blt_dec, a1, a2, a3, a4, h2]
theorem tmod5 (k : Nat) : 0 ≤ (k : Int).tmod 5 ∧ (k : Int).tmod 5 < 5 := by
  rw [Int.tmod_eq_emod_of_nonneg (by omega)]; omega
/-- Which places there are. -/
theorem mv_cases {k : Nat} (hk : k < n + 5) : k = 0 ∨ k = 1 ∨ (2 ≤ k ∧ k < n + 2) ∨ k = n + 2 ∨ k = n + 3 ∨ k = n + 4 := by omega
theorem isE_97 : isE ⟨#[97]⟩ = false := by kernel_rfl
theorem isE_98 : isE ⟨#[98]⟩ = false := by kernel_rfl
theorem isE_nil : isE ⟨#[]⟩ = true := by kernel_rfl
theorem ba_ne {a b : ByteArray} (h : a.data.toList ≠ b.data.toList) : a ≠ b := fun e => h (by rw [e])
theorem ab_ne : (⟨#[97]⟩ : ByteArray) ≠ ⟨#[98]⟩ := ba_ne (by decide)
theorem mv_good (k : Nat) (hk : k < n + 5) : goodK (mvI n) k = true := by
  have row : ∀ r, (mvI n).row k = r → goodK (mvI n) k = goodF (asS (r.getD 0 undefd)) (asI (r.getD 1 undefd)) (asI (r.getD 2 undefd)) (asI (r.getD 3 undefd)) (asI (r.getD 4 undefd)) (asI (r.getD 5 undefd)) (asS (r.getD 6 undefd)) (asI (r.getD 7 undefd)) := by
    intro r h; subst h; rfl
  rcases mv_cases n hk with rfl | rfl | ⟨h1, h2⟩ | rfl | rfl | rfl
  · rw [row _ (mv_0 n)]; exact good_0
  · rw [row _ (mv_1 n)]; exact good_1
  · obtain ⟨j, rfl⟩ : ∃ j, k = j + 2 := ⟨k - 2, by omega⟩
    rw [row _ (mv_mid n j (by omega))]
    exact good28 _ (tmod5 j).1 (tmod5 j).2
  · rw [row _ (mv_2 n)]; exact good_2
  · rw [row _ (mv_3 n)]; exact good_3
  · rw [row _ (mv_4 n)]; exact good_4
theorem mv_goodTo : ∀ k, k ≤ n + 5 → goodTo (mvI n) k = true
  | 0, _ => rfl
  | k + 1, hk => by simp only [goodTo, mv_goodTo k (by omega), mv_good n k (by omega), Bool.and_self]
/-- The labels, as they are found. -/
theorem mv_chk : ∀ k, k ≤ n + 5 → (chkIt (mvI n) m0 k).dup = false ∧ ∀ q : ByteArray, (chkIt (mvI n) m0 k).m.has (.string q) = ((decide (0 < k) && keq (.string q) (.string ⟨#[97]⟩)) || (decide (n + 3 < k) && keq (.string q) (.string ⟨#[98]⟩)))
  | 0, _ => ⟨rfl, fun q => rfl⟩
  | k + 1, hk => by
    obtain ⟨h1, h2⟩ := mv_chk k (by omega)
    simp only [chkIt, chkStep, h1, cond_false]
    by_cases h0 : k = 0
    · subst h0
      rw [h2, mvf_0]
      simp [isE_97, LMap.set, h2]
    by_cases h3 : k = n + 3
    · subst h3
      rw [h2, mvf_lb3]
      have e : keq (.string ⟨#[98]⟩) (.string ⟨#[97]⟩) = false := keq_ne (Ne.symm ab_ne)
      have d1 : decide (0 < n + 3) = true := by simp
      have d2 : decide (n + 3 < n + 3) = false := by simp
      have d3 : decide (0 < n + 3 + 1) = true := by simp
      have d4 : decide (n + 3 < n + 3 + 1) = true := by simp
      simp only [e, d1, d2, d3, d4, Bool.and_false, Bool.false_and, Bool.or_false, cond_false, isE_98, LMap.set, h2, Bool.true_and]
      exact ⟨trivial, fun q => Bool.or_comm _ _⟩
    · rw [h2, mvf_lb n h0 h3]
      have e1 : keq (.string ⟨#[]⟩) (.string ⟨#[97]⟩) = false := keq_ne (ba_ne (by decide))
      have e2 : keq (.string ⟨#[]⟩) (.string ⟨#[98]⟩) = false := keq_ne (ba_ne (by decide))
      have d1 : decide (0 < k + 1) = decide (0 < k) := by simp; omega
      have d2 : decide (n + 3 < k + 1) = decide (n + 3 < k) := by simp; omega
      simp only [e1, e2, Bool.and_false, Bool.or_false, cond_false, isE_nil, cond_true, d1, d2]
      exact ⟨trivial, h2⟩
theorem mv_found : ∀ k, k ≤ n + 5 → foundTo (mvI n) (chkIt (mvI n) m0 (n + 5)).m k = true
  | 0, _ => rfl
  | k + 1, hk => by
    simp only [foundTo, mv_found k (by omega), Bool.true_and]
    have hh := (mv_chk n (n + 5) (Nat.le_refl _)).2
    rw [hh]
    have d1 : decide (0 < n + 5) = true := by simp
    have d2 : decide (n + 3 < n + 5) = true := by simp
    rw [d1, d2]
    by_cases h1 : k = 1
    · subst h1; rw [mvf_to1, keq_self]; simp
    by_cases h2 : k = n + 2
    · subst h2; rw [mvf_to2, keq_self]; simp
    by_cases h4 : k = n + 4
    · subst h4; rw [mvf_to4, keq_self]; simp
    · rw [mvf_to n h1 h2 h4, isE_nil]; rfl
theorem mv_check (x : Int) (h0 : 0 ≤ x) (h1 : x ≤ 3999996) (h2 : x % 4 = 0) (hn : n < 1300) : checkE (mvI n) x (n + 5) m0 = 0 := by
  have e1 : badAt x = false := by
    unfold badAt
    rw [Int.tmod_eq_emod_of_nonneg h0, h2]
    simp; omega
  have e2 : decide (((n + 5 : Nat) : Int) > 65536) = false := by simp; omega
  unfold checkE
  rw [e1, e2, mv_goodTo n _ (Nat.le_refl _), (mv_chk n _ (Nat.le_refl _)).1, mv_found n _ (Nat.le_refl _)]
  rfl
theorem mv_known : Known (mvI n) (n + 5) := by
  intro k hk ht
  by_cases h1 : k = 1
  · subst h1; exact ⟨n + 3, by omega, by rw [mvf_lb3]; exact isE_98, by rw [mvf_lb3, mvf_to1]⟩
  by_cases h2 : k = n + 2
  · subst h2; exact ⟨0, by omega, isE_97, by rw [mvf_to2, mvf_0]⟩
  by_cases h4 : k = n + 4
  · subst h4; exact ⟨0, by omega, isE_97, by rw [mvf_to4, mvf_0]⟩
  · rw [mvf_to n h1 h2 h4] at ht; exact absurd ht (by rw [isE_nil]; decide)
theorem mv_first (k : Nat) (hk0 : 0 < k) (hk : k < n + 5) (hl : isE ((mvI n).lb k) = false) : (mvI n).lb k ≠ (mvI n).lb 0 := by
  by_cases h3 : k = n + 3
  · subst h3; rw [mvf_lb3, mvf_0]; exact Ne.symm ab_ne
  · rw [mvf_lb n (by omega) h3] at hl; exact absurd hl (by rw [isE_nil]; decide)
end
end Go.X
namespace Go.X
open Go Go.Proofs
set_option linter.unusedVariables false
set_option linter.unusedSimpArgs false
theorem insK_all {I : Its} {s : ASt} {k : Nat} (h1 : okI (wordA I s.wd s.m s.pl k) = true) (h2 : twoF I s.wd k = true → okI (wordJ I s.m s.pl k) = true) : (insK I s k (wordsN I s.wd k)).all okI = true := by
  cases ht : twoF I s.wd k with
  | true =>
    have : insK I s k (wordsN I s.wd k) = [wordA I s.wd s.m s.pl k, wordJ I s.m s.pl k] := by simp only [wordsN, ht, cond_true]; rfl
    rw [this]; simp [h1, h2 ht]
  | false =>
    have : insK I s k (wordsN I s.wd k) = [wordA I s.wd s.m s.pl k] := by simp only [wordsN, ht, cond_false]; rfl
    rw [this]; simp [h1]
theorem insK_len {I : Its} {s : ASt} {k : Nat} : (insK I s k (wordsN I s.wd k)).length = wordsN I s.wd k := by simp [insK]
theorem ok_opp46 : okI ⟨oppF 46, 0, 5, 0, 8⟩ = true := by kernel_rfl
theorem ok_opp45 : okI ⟨oppF 45, 0, 5, 0, 8⟩ = true := by kernel_rfl
theorem branch53 : branchF 53 = false := by decide
theorem branch28 : branchF 28 = false := by decide
theorem branch46 : branchF 46 = true := by decide
theorem branch45 : branchF 45 = true := by decide
/-- Where it goes, from here. -/
theorem by_of {x a b : Int} {N : Nat} (ha : Off x N a) (hb : Off x N b) (hN : N ≤ 100000) : ∃ t : Int, IntKind.i64.wrap (a - b) = 4 * t ∧ -(2 * (N : Int)) ≤ t ∧ t ≤ 2 * N ∧ a - b = 4 * t := by
  obtain ⟨t1, e1, l1, u1⟩ := ha
  obtain ⟨t2, e2, l2, u2⟩ := hb
  refine ⟨t1 - t2, ?_, by omega, by omega, by omega⟩
  rw [wrap_i (by omega) (by omega)]; omega
section
variable {n : Nat} {x : Int} (hn : n < 1300) (hx : 0 ≤ x) (hx' : x ≤ 3999996)
include hn hx hx'
theorem mv_bd : Bd (mvI n) (n + 5) x (finA (mvI n) x (n + 5)) :=
  (fin_both (x := x) (d := 0) hx (by omega) (by omega) (by omega) (mv_known n)).2
theorem mv_item (k : Nat) (hk : k < n + 5) (hl : isE ((mvI n).lb k) = true) :
    (insK (mvI n) (finA (mvI n) x (n + 5)) k (wordsN (mvI n) (finA (mvI n) x (n + 5)).wd k)).all okI = true ∧ (k ≠ 1 → k ≠ n + 2 → wordsN (mvI n) (finA (mvI n) x (n + 5)).wd k = 1) := by
  have hbd := mv_bd hn hx hx'
  have hwd := fin_wd (I := mvI n) (N := n + 5) x
  have hfar := fin_far (I := mvI n) (N := n + 5) x k hk
  generalize finA (mvI n) x (n + 5) = s at *
  have nwd : branchF ((mvI n).op k) = false → s.wd k = false := fun hb => by
    cases h : s.wd k with
    | false => rfl
    | true => rw [(hwd k h).2.1] at hb; cases hb
  have one : s.wd k = false → wordsN (mvI n) s.wd k = 1 := fun h => by simp [wordsN, twoF, h]
  have e1 : ((mvI n).part k == 1) = false := rfl
  have e2 : ((mvI n).part k == 2) = false := rfl
  rcases mv_cases n hk with rfl | rfl | ⟨h1, h2⟩ | rfl | rfl | rfl
  · rw [mvf_0, isE_97] at hl; cases hl
  · -- the branch ahead
    refine ⟨?_, fun h => absurd rfl h⟩
    have hlab : Lab (mvI n) (n + 5) ⟨#[98]⟩ := ⟨n + 3, by omega, by rw [mvf_lb3]; exact isE_98, (mvf_lb3 n).symm⟩
    obtain ⟨t, ht, l, u, hd⟩ := by_of (hbd.val _ hlab) (hbd.pl 1 (by omega)) (by omega)
    refine insK_all ?_ (fun _ => ?_)
    · unfold wordA
      rw [mvf_to1, isE_98, e1, e2]
      simp only [cond_false]
      cases hw : s.wd 1 with
      | true => exact ok_opp46
      | false =>
        simp only [cond_false]
        rw [ht]
        have hf : fitsF 46 (4 * t) = true := by
          unfold farF at hfar
          rw [hl, mvf_op1, mvf_to1, isE_98, hw, ht, branch46] at hfar
          simpa using hfar
        rw [fits46] at hf
        simp only [Bool.and_eq_true, decide_eq_true_eq] at hf
        exact ok46 t hf.1 hf.2
    · unfold wordJ
      rw [mvf_to1, ht, show 4 * t - 4 = 4 * (t - 1) by omega, wrap_i (by omega) (by omega)]
      exact ok53 _ (by omega) (by omega)
  · have hm := mvf_mid n h1 h2
    have hw : s.wd k = false := nwd (by rw [hm.1]; exact branch28)
    refine ⟨insK_all ?_ (fun h => ?_), fun _ _ => one hw⟩
    · unfold wordA
      rw [mvf_to n (by omega) (by omega) (by omega), isE_nil]
      simp only [cond_true]
      rw [hm.1, hm.2.1, hm.2.2]
      exact ok28 _ (tmod5 _).1 (tmod5 _).2
    · simp [twoF, hw] at h
  · -- the branch back
    refine ⟨?_, fun _ h => absurd rfl h⟩
    have hlab : Lab (mvI n) (n + 5) ⟨#[97]⟩ := ⟨0, by omega, isE_97, rfl⟩
    obtain ⟨t, ht, l, u, hd⟩ := by_of (hbd.val _ hlab) (hbd.pl (n + 2) (by omega)) (by omega)
    have hrs : (mvI n).rs1 (n + 2) = 5 := by simp [mvI, beq_dec]
    refine insK_all ?_ (fun _ => ?_)
    · unfold wordA
      rw [mvf_to2, isE_97, e1, e2, mvf_op2, hrs]
      simp only [cond_false]
      cases hw : s.wd (n + 2) with
      | true => exact ok_opp45
      | false =>
        simp only [cond_false]
        rw [ht]
        have hf : fitsF 45 (4 * t) = true := by
          unfold farF at hfar
          rw [hl, mvf_op2, mvf_to2, isE_97, hw, ht, branch45] at hfar
          simpa using hfar
        rw [fits45] at hf
        simp only [Bool.and_eq_true, decide_eq_true_eq] at hf
        exact ok45 t hf.1 hf.2
    · unfold wordJ
      rw [mvf_to2, ht, show 4 * t - 4 = 4 * (t - 1) by omega, wrap_i (by omega) (by omega)]
      exact ok53 _ (by omega) (by omega)
  · rw [mvf_lb3, isE_98] at hl; cases hl
  · have hw : s.wd (n + 4) = false := nwd (by rw [mvf_op4]; exact branch53)
    have hlab : Lab (mvI n) (n + 5) ⟨#[97]⟩ := ⟨0, by omega, isE_97, rfl⟩
    obtain ⟨t, ht, l, u, hd⟩ := by_of (hbd.val _ hlab) (hbd.pl (n + 4) (by omega)) (by omega)
    have hrs : (mvI n).rs1 (n + 4) = 0 := by simp [mvI, beq_dec]
    refine ⟨insK_all ?_ (fun h => ?_), fun _ _ => one hw⟩
    · unfold wordA
      rw [mvf_to4, isE_97, e1, e2, mvf_op4, hrs, hw, ht]
      exact ok53 _ (by omega) (by omega)
    · simp [twoF, hw] at h
theorem mv_all : ∀ k, k ≤ n + 5 → (insTo (mvI n) (finA (mvI n) x (n + 5)) k).all okI = true
  | 0, _ => rfl
  | k + 1, hk => by
    simp only [insTo, List.all_append, mv_all k (by omega), Bool.true_and]
    cases hl : isE ((mvI n).lb k) with
    | false => rfl
    | true => exact (mv_item hn hx hx' k (by omega) hl).1
theorem mv_len : ∀ k, k ≤ n + 5 → (k - 1 - (if n + 3 < k then 1 else 0)) ≤ (insTo (mvI n) (finA (mvI n) x (n + 5)) k).length ∧
    (insTo (mvI n) (finA (mvI n) x (n + 5)) k).length ≤ (k - 1 - (if n + 3 < k then 1 else 0)) + (if 1 < k then 1 else 0) + (if n + 2 < k then 1 else 0)
  | 0, _ => ⟨Nat.le_refl _, Nat.le_refl _⟩
  | k + 1, hk => by
    have ih := mv_len k (by omega)
    simp only [insTo, List.length_append]
    have hw := wordsN_pos (mvI n) (finA (mvI n) x (n + 5)).wd k
    cases hl : isE ((mvI n).lb k) with
    | false =>
      simp only [cond_false, List.length_nil]
      have : k = 0 ∨ k = n + 3 := by
        by_cases h0 : k = 0
        · exact .inl h0
        by_cases h3 : k = n + 3
        · exact .inr h3
        rw [mvf_lb n h0 h3, isE_nil] at hl; cases hl
      generalize (insTo (mvI n) (finA (mvI n) x (n + 5)) k).length = L at ih ⊢
      rcases this with rfl | rfl
      · refine ⟨?_, ?_⟩ <;> (repeat' (split at ih)) <;> (repeat' split) <;> omega
      · refine ⟨?_, ?_⟩ <;> (repeat' (split at ih)) <;> (repeat' split) <;> omega
    | true =>
      simp only [cond_true, insK_len]
      have h1 := (mv_item hn hx hx' k (by omega) hl).2
      have h0 : k ≠ 0 := by rintro rfl; rw [mvf_0, isE_97] at hl; cases hl
      have h3 : k ≠ n + 3 := by rintro rfl; rw [mvf_lb3, isE_98] at hl; cases hl
      have h1' : k = 1 ∨ k = n + 2 ∨ wordsN (mvI n) (finA (mvI n) x (n + 5)).wd k = 1 := by
        by_cases e1 : k = 1
        · exact .inl e1
        by_cases e2 : k = n + 2
        · exact .inr (.inl e2)
        · exact .inr (.inr (h1 e1 e2))
      clear h1 hl
      generalize (insTo (mvI n) (finA (mvI n) x (n + 5)) k).length = L at ih ⊢
      generalize wordsN (mvI n) (finA (mvI n) x (n + 5)).wd k = W at hw h1' ⊢
      refine ⟨?_, ?_⟩ <;> (repeat' (split at ih)) <;> (repeat' split) <;> omega
end
theorem mv_ok {n : Nat} {x y : Int} (hn : n < 1300) (hx : 0 ≤ x) (hx' : x ≤ 3999996) (hx4 : x % 4 = 0) (hy : 0 ≤ y) (hy' : y ≤ 3999996) (hy4 : y % 4 = 0) : MvOK n x y := by
  have ex : ∀ {z : Int}, 0 ≤ z → z ≤ 3999996 → z % 4 = 0 → asmE (mvI n) z (n + 5) = 0 := by
    intro z h0 h1 h4
    have hlen := insTo_len (mvI n) (finA (mvI n) z (n + 5)) (n + 5)
    have h5 : decide (((asmW (mvI n) z (n + 5)).length : Int) > 65536) = false := by
      simp [asmW]; omega
    unfold asmE
    rw [mv_check n z h0 h1 h4 hn, mv_all hn h0 h1 _ (Nat.le_refl _), h5]
    rfl
  obtain ⟨d, rfl⟩ : ∃ d, y = x + d := ⟨y - x, by omega⟩
  obtain ⟨hs, hb⟩ := fin_both (I := mvI n) (N := n + 5) (x := x) (d := d) hx hy (by omega) (by omega) (mv_known n)
  have hW : asmW (mvI n) (x + d) (n + 5) = asmW (mvI n) x (n + 5) := by
    unfold asmW
    rw [insTo_shift (mv_known n) (fun _ _ => rfl) hs (n + 5) (Nat.le_refl _)]
  have hl := mv_len hn hx hx' (n + 5) (Nat.le_refl _)
  have hlW : (asmW (mvI n) x (n + 5)).length = (insTo (mvI n) (finA (mvI n) x (n + 5)) (n + 5)).length := by simp [asmW]
  have hf : ∀ z : Int, (finA (mvI n) z (n + 5)).m.val (.string ⟨#[97]⟩) = z := fun z =>
    fin_lay (I := mvI n) (N := n + 5) (x := z) (fun m => m.val (.string ⟨#[97]⟩) = z) fun wd m pl => lay_first (I := mvI n) (N := n + 5) wd z m pl isE_97 (mv_first n) (n + 5) (by omega) (Nat.le_refl _)
  refine ⟨ex hx hx' hx4, ex hy hy' hy4, hW.symm, ?_, ?_, hf x, hf _, ?_⟩
  · rw [hlW]; have := hl.1; simp at this; omega
  · rw [hlW]; have := hl.2; simp at this; omega
  · have hlab : Lab (mvI n) (n + 5) ⟨#[98]⟩ := ⟨n + 3, by omega, by rw [mvf_lb3]; exact isE_98, (mvf_lb3 n).symm⟩
    rw [hs.val _ hlab, sub_shift]
theorem c3 (a a0 a1 : Int) : Body Try.prog 3 [.int .i64 a, .agg ⟨[.int .i64 a0, .int .i64 a1]⟩] [] (.bool true) [] 2 0 :=
  b3 a a0 a1 (mv_ok (mvN_eq a).2 (mvAt_facts a0).1 (mvAt_facts a0).2.1 (mvAt_facts a0).2.2 (mvAt_facts a1).1 (mvAt_facts a1).2.1 (mvAt_facts a1).2.2)
end Go.X
