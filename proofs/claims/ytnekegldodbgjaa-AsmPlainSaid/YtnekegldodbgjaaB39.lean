import Derived.Test.YtnekegldodbgjaaB37
import Derived.Test.YtnekegldodbgjaaB38
set_option linter.all false
set_option linter.unusedVariables false
set_option linter.unusedSimpArgs false
namespace Go.X
open Go Go.Proofs
set_option linter.unusedVariables false
set_option linter.unusedSimpArgs false
/-! ### Assemble: what is laid where, and what it is wherever it is laid -/
section
variable (I : Its)
def Lab (I : Its) (N : Nat) (q : ByteArray) : Prop := ∃ j, j < N ∧ isE (I.lb j) = false ∧ q = I.lb j
theorem keq_self (s : ByteArray) : keq (.string s) (.string s) = true := (keq_eq (d := .string) rfl rfl).2 rfl
theorem keq_ne {s t : ByteArray} (h : s ≠ t) : keq (.string s) (.string t) = false := by
  cases hk : keq (.string s) (.string t) with
  | false => rfl
  | true => exact absurd (by injection (keq_eq (d := .string) rfl rfl).1 hk) h
theorem sub_shift (a b d : Int) : a + d - (b + d) = a - b := by omega
/-- So far from where it begins. -/
def Off (x : Int) (N : Nat) (v : Int) : Prop := ∃ t : Int, v = x + 4 * t ∧ 0 ≤ t ∧ t ≤ 2 * N
theorem Off.mono {x v : Int} {k N : Nat} (h : Off x k v) (hk : k ≤ N) : Off x N v := by
  obtain ⟨t, h1, h2, h3⟩ := h
  exact ⟨t, h1, h2, by omega⟩
theorem lay_off (wd : Nat → Bool) (x : Int) (m : LMap) (pl : Nat → Int) (hx : 0 ≤ x) : ∀ k : Nat, x + 8 * k < 4611686018427387904 →
    Off x k (layIt I wd ⟨x, m, pl⟩ k).cur ∧ (∀ j, j < k → Off x k ((layIt I wd ⟨x, m, pl⟩ k).pl j)) ∧ (∀ q, Lab I k q → Off x k ((layIt I wd ⟨x, m, pl⟩ k).m.val (.string q)))
  | 0, _ => ⟨⟨0, by simp [layIt], by omega, by omega⟩, fun j hj => absurd hj (Nat.not_lt_zero j), fun q ⟨j, hj, _⟩ => absurd hj (Nat.not_lt_zero j)⟩
  | k + 1, hb => by
    obtain ⟨h1, h2, h3⟩ := lay_off wd x m pl hx k (by omega)
    obtain ⟨t, e, t0, t1⟩ := h1
    simp only [layIt, layStep]
    have hpl : ∀ j, j < k + 1 → Off x (k + 1) (upd (layIt I wd ⟨x, m, pl⟩ k).pl k (layIt I wd ⟨x, m, pl⟩ k).cur j) := by
      intro j hj
      simp only [upd]
      cases hjk : Nat.beq j k with
      | true => exact ⟨t, e, t0, by omega⟩
      | false =>
        have : j ≠ k := by rintro rfl; simp at hjk
        exact (h2 j (by omega)).mono (by omega)
    cases hl : isE (I.lb k) with
    | true =>
      simp only [cond_true]
      refine ⟨?_, hpl, ?_⟩
      · cases wd k with
        | true => exact ⟨t + 2, by simp only [cond_true]; rw [wrap_i (by omega) (by omega)]; omega, by omega, by omega⟩
        | false => exact ⟨t + 1, by simp only [cond_false]; rw [wrap_i (by omega) (by omega)]; omega, by omega, by omega⟩
      · rintro q ⟨j, hj, hj1, rfl⟩
        have : j ≠ k := by rintro rfl; rw [hl] at hj1; cases hj1
        exact (h3 _ ⟨j, by omega, hj1, rfl⟩).mono (by omega)
    | false =>
      simp only [cond_false]
      refine ⟨⟨t, e, t0, by omega⟩, hpl, ?_⟩
      rintro q ⟨j, hj, hj1, rfl⟩
      simp only [LMap.set]
      by_cases hq : I.lb j = I.lb k
      · rw [hq, keq_self]; exact ⟨t, e, t0, by omega⟩
      · rw [keq_ne hq, cond_false]
        have : j ≠ k := by rintro rfl; exact hq rfl
        exact (h3 _ ⟨j, by omega, hj1, rfl⟩).mono (by omega)
theorem lay_shift (wd : Nat → Bool) (x d : Int) (m m' : LMap) (pl pl' : Nat → Int) (hx : 0 ≤ x) (hx' : 0 ≤ x + d) : ∀ k : Nat, x + 8 * k < 4611686018427387904 → x + d + 8 * k < 4611686018427387904 →
    (layIt I wd ⟨x + d, m', pl'⟩ k).cur = (layIt I wd ⟨x, m, pl⟩ k).cur + d ∧ (∀ j, j < k → (layIt I wd ⟨x + d, m', pl'⟩ k).pl j = (layIt I wd ⟨x, m, pl⟩ k).pl j + d) ∧
      (∀ q, Lab I k q → (layIt I wd ⟨x + d, m', pl'⟩ k).m.val (.string q) = (layIt I wd ⟨x, m, pl⟩ k).m.val (.string q) + d)
  | 0, _, _ => ⟨rfl, fun j hj => absurd hj (Nat.not_lt_zero j), fun q ⟨j, hj, _⟩ => absurd hj (Nat.not_lt_zero j)⟩
  | k + 1, hb, hb' => by
    obtain ⟨h1, h2, h3⟩ := lay_shift wd x d m m' pl pl' hx hx' k (by omega) (by omega)
    obtain ⟨t, e, t0, t1⟩ := (lay_off I wd x m pl hx k (by omega)).1
    simp only [layIt, layStep]
    have hpl : ∀ j, j < k + 1 → upd (layIt I wd ⟨x + d, m', pl'⟩ k).pl k (layIt I wd ⟨x + d, m', pl'⟩ k).cur j = upd (layIt I wd ⟨x, m, pl⟩ k).pl k (layIt I wd ⟨x, m, pl⟩ k).cur j + d := by
      intro j hj
      simp only [upd]
      cases hjk : Nat.beq j k with
      | true => exact h1
      | false =>
        have : j ≠ k := by rintro rfl; simp at hjk
        exact h2 j (by omega)
    cases hl : isE (I.lb k) with
    | true =>
      simp only [cond_true]
      refine ⟨?_, hpl, ?_⟩
      · rw [h1]
        cases wd k with
        | true => simp only [cond_true]; rw [wrap_i (by omega) (by omega), wrap_i (by omega) (by omega)]; omega
        | false => simp only [cond_false]; rw [wrap_i (by omega) (by omega), wrap_i (by omega) (by omega)]; omega
      · rintro q ⟨j, hj, hj1, rfl⟩
        have : j ≠ k := by rintro rfl; rw [hl] at hj1; cases hj1
        exact h3 _ ⟨j, by omega, hj1, rfl⟩
    | false =>
      simp only [cond_false]
      refine ⟨h1, hpl, ?_⟩
      rintro q ⟨j, hj, hj1, rfl⟩
      simp only [LMap.set]
      by_cases hq : I.lb j = I.lb k
      · rw [hq, keq_self]; exact h1
      · rw [keq_ne hq, cond_false, cond_false]
        have : j ≠ k := by rintro rfl; exact hq rfl
        exact h3 _ ⟨j, by omega, hj1, rfl⟩
variable (N : Nat)
/-- All that is gone to is there. -/
def Known (I : Its) (N : Nat) : Prop := ∀ k, k < N → isE (I.to k) = false → Lab I N (I.to k)
structure Bd (x : Int) (s : ASt) : Prop where
  pl : ∀ j, j < N → Off x N (s.pl j)
  val : ∀ q, Lab I N q → Off x N (s.m.val (.string q))
structure Shf (d : Int) (s s' : ASt) : Prop where
  wd : s'.wd = s.wd
  pl : ∀ j, j < N → s'.pl j = s.pl j + d
  val : ∀ q, Lab I N q → s'.m.val (.string q) = s.m.val (.string q) + d
variable {I N}
theorem far_shift {d : Int} {s s' : ASt} (hK : Known I N) (h : Shf I N d s s') {wd : Nat → Bool} {k : Nat} (hk : k < N) : farF I s'.m s'.pl wd k = farF I s.m s.pl wd k := by
  unfold farF
  cases ht : isE (I.to k) with
  | true => simp
  | false => rw [h.pl k hk, h.val _ (hK k hk ht), sub_shift]
theorem wid_shift {d : Int} {s s' : ASt} (hK : Known I N) (h : Shf I N d s s') : ∀ k, k ≤ N → widIt I s'.m s'.pl ⟨false, s'.wd⟩ k = widIt I s.m s.pl ⟨false, s.wd⟩ k
  | 0, _ => by simp only [widIt, h.wd]
  | k + 1, hk => by simp only [widIt, widStep, wid_shift hK h k (by omega), far_shift hK h (show k < N by omega)]
theorem next_bd {x : Int} (hx : 0 ≤ x) (hb : x + 8 * N < 4611686018427387904) (s : ASt) : Bd I N x (nextA I x N s) := by
  obtain ⟨_, h2, h3⟩ := lay_off I (widN I N s).wd x s.m s.pl hx N hb
  exact ⟨h2, h3⟩
theorem next_shf {x d : Int} (hx : 0 ≤ x) (hx' : 0 ≤ x + d) (hb : x + 8 * N < 4611686018427387904) (hb' : x + d + 8 * N < 4611686018427387904) (hK : Known I N) {s s' : ASt} (h : Shf I N d s s') : Shf I N d (nextA I x N s) (nextA I (x + d) N s') := by
  have hw : widN I N s' = widN I N s := wid_shift hK h N (Nat.le_refl _)
  obtain ⟨_, h2, h3⟩ := lay_shift I (widN I N s).wd x d s.m s'.m s.pl s'.pl hx hx' N hb hb'
  refine ⟨by simp only [nextA, hw], ?_, ?_⟩
  · simp only [nextA, hw]; exact h2
  · simp only [nextA, hw]; exact h3
theorem fix_both {x d : Int} (hx : 0 ≤ x) (hx' : 0 ≤ x + d) (hb : x + 8 * N < 4611686018427387904) (hb' : x + d + 8 * N < 4611686018427387904) (hK : Known I N) : ∀ (f : Nat) {s s' : ASt}, Shf I N d s s' → Bd I N x s →
    Shf I N d (fixN I x N f s) (fixN I (x + d) N f s') ∧ Bd I N x (fixN I x N f s)
  | 0, _, _, h, h' => ⟨h, h'⟩
  | f + 1, s, s', h, h' => by
    have hw : widN I N s' = widN I N s := wid_shift hK h N (Nat.le_refl _)
    simp only [fixN, hw]
    cases (widN I N s).more with
    | true => exact fix_both hx hx' hb hb' hK f (next_shf hx hx' hb hb' hK h) (next_bd hx hb s)
    | false => exact ⟨h, h'⟩
theorem start_both {x d : Int} (hx : 0 ≤ x) (hx' : 0 ≤ x + d) (hb : x + 8 * N < 4611686018427387904) (hb' : x + d + 8 * N < 4611686018427387904) : Shf I N d (startA I x N) (startA I (x + d) N) ∧ Bd I N x (startA I x N) := by
  obtain ⟨_, h2, h3⟩ := lay_shift I (fun _ => false) x d (checkM I x N m0) (checkM I (x + d) N m0) (fun _ => 0) (fun _ => 0) hx hx' N hb hb'
  obtain ⟨_, h4, h5⟩ := lay_off I (fun _ => false) x (checkM I x N m0) (fun _ => 0) hx N hb
  exact ⟨⟨rfl, h2, h3⟩, ⟨h4, h5⟩⟩
theorem fin_both {x d : Int} (hx : 0 ≤ x) (hx' : 0 ≤ x + d) (hb : x + 8 * N < 4611686018427387904) (hb' : x + d + 8 * N < 4611686018427387904) (hK : Known I N) : Shf I N d (finA I x N) (finA I (x + d) N) ∧ Bd I N x (finA I x N) :=
  fix_both hx hx' hb hb' hK (N + 1) (start_both hx hx' hb hb').1 (start_both hx hx' hb hb').2
theorem word0_shift {d : Int} {s s' : ASt} (hK : Known I N) (hp : ∀ k, k < N → I.part k = 0) (h : Shf I N d s s') {k : Nat} (hk : k < N) : wordA I s'.wd s'.m s'.pl k = wordA I s.wd s.m s.pl k := by
  unfold wordA
  rw [h.wd]
  cases ht : isE (I.to k) with
  | true => simp only [cond_true]
  | false =>
    have e1 : (I.part k == 1) = false := by rw [hp k hk]; rfl
    have e2 : (I.part k == 2) = false := by rw [hp k hk]; rfl
    simp only [e1, e2, cond_false]
    rw [h.pl k hk, h.val _ (hK k hk ht), sub_shift]
theorem wordJ_shift {d : Int} {s s' : ASt} (hK : Known I N) (h : Shf I N d s s') {k : Nat} (hk : k < N) (ht : isE (I.to k) = false) : wordJ I s'.m s'.pl k = wordJ I s.m s.pl k := by
  unfold wordJ
  rw [h.pl k hk, h.val _ (hK k hk ht), sub_shift]
theorem insK_shift {d : Int} {s s' : ASt} (hK : Known I N) (hp : ∀ k, k < N → I.part k = 0) (h : Shf I N d s s') {k : Nat} (hk : k < N) : insK I s' k (wordsN I s'.wd k) = insK I s k (wordsN I s.wd k) := by
  rw [h.wd]
  unfold insK
  cases ht : isE (I.to k) with
  | true =>
    have : wordsN I s.wd k = 1 := by simp [wordsN, twoF, ht]
    rw [this]
    show [wordI I s'.wd s'.m s'.pl k 0] = [wordI I s.wd s.m s.pl k 0]
    exact congrArg (fun a => [a]) (word0_shift hK hp h hk)
  | false =>
    refine congrArg (fun f => List.map f _) (funext fun j => ?_)
    unfold wordI
    rw [word0_shift hK hp h hk, wordJ_shift hK h hk ht]
theorem insTo_shift {d : Int} {s s' : ASt} (hK : Known I N) (hp : ∀ k, k < N → I.part k = 0) (h : Shf I N d s s') : ∀ k, k ≤ N → insTo I s' k = insTo I s k
  | 0, _ => rfl
  | k + 1, hk => by simp only [insTo, insTo_shift hK hp h k (by omega), insK_shift hK hp h (show k < N by omega)]
end
end Go.X
namespace Go.X
open Go Go.Proofs
set_option linter.unusedVariables false
set_option linter.unusedSimpArgs false
section
variable {I : Its} {N : Nat}
theorem wid_none {m : LMap} {pl : Nat → Int} {wd : Nat → Bool} : ∀ {k : Nat}, (widIt I m pl ⟨false, wd⟩ k).more = false → ∀ j, j < k → farF I m pl wd j = false
  | 0, _, j, hj => absurd hj (Nat.not_lt_zero j)
  | k + 1, h, j, hj => by
    simp only [widIt, widStep] at h
    cases hf : farF I m pl (widIt I m pl ⟨false, wd⟩ k).wd k with
    | true => rw [hf] at h; cases h
    | false =>
      rw [hf] at h
      simp only [cond_false] at h
      by_cases e : j = k
      · subst e
        rw [(wid_facts I m pl wd j).2.1 h] at hf
        exact hf
      · exact wid_none h j (by omega)
theorem fix_done {x : Int} : ∀ (f : Nat) {s : ASt}, cntF s.wd N < f → (widN I N (fixN I x N f s)).more = false
  | 0, s, h => absurd h (Nat.not_lt_zero _)
  | f + 1, s, h => by
    simp only [fixN]
    cases hm : (widN I N s).more with
    | true =>
      obtain ⟨h1, _, h3⟩ := wid_facts I s.m s.pl s.wd N
      have hlt : cntF (nextA I x N s).wd N < cntF s.wd N := cnt_lt h1 N (h3 hm)
      exact fix_done f (by omega)
    | false => exact hm
theorem fin_far (x : Int) (k : Nat) (hk : k < N) : farF I (finA I x N).m (finA I x N).pl (finA I x N).wd k = false :=
  wid_none (fix_done (N + 1) (Nat.lt_succ_of_le (cnt_le _ _))) k hk
/-- Only branches to a label have two words. -/
def WdOk (I : Its) (wd : Nat → Bool) : Prop := ∀ k, wd k = true → isE (I.lb k) = true ∧ branchF (I.op k) = true ∧ isE (I.to k) = false
theorem wid_ok {m : LMap} {pl : Nat → Int} {wd : Nat → Bool} (h : WdOk I wd) : ∀ k, WdOk I (widIt I m pl ⟨false, wd⟩ k).wd
  | 0 => h
  | k + 1 => by
    simp only [widIt, widStep]
    have ih := wid_ok (m := m) (pl := pl) h k
    cases hf : farF I m pl (widIt I m pl ⟨false, wd⟩ k).wd k with
    | false => exact ih
    | true =>
      intro j hj
      simp only [cond_true, upd] at hj
      cases hb : Nat.beq j k with
      | true =>
        have := Nat.eq_of_beq_eq_true hb
        subst this
        unfold farF at hf
        simp only [Bool.and_eq_true, Bool.not_eq_true'] at hf
        exact ⟨hf.1.1.1.1, hf.1.1.1.2, hf.1.1.2⟩
      | false => rw [hb] at hj; exact ih j hj
theorem fix_wd {x : Int} : ∀ (f : Nat) {s : ASt}, WdOk I s.wd → WdOk I (fixN I x N f s).wd
  | 0, s, h => h
  | f + 1, s, h => by
    simp only [fixN]
    cases (widN I N s).more with
    | true => exact fix_wd f (wid_ok h N)
    | false => exact h
theorem fin_wd (x : Int) : WdOk I (finA I x N).wd := fix_wd (N + 1) fun k hk => by simp [startA] at hk
/-- What is laid last comes of a laying. -/
theorem fix_lay {x : Int} (P : LMap → Prop) (hP : ∀ wd m pl, P (layIt I wd ⟨x, m, pl⟩ N).m) : ∀ (f : Nat) {s : ASt}, P s.m → P (fixN I x N f s).m
  | 0, s, h => h
  | f + 1, s, h => by
    simp only [fixN]
    cases (widN I N s).more with
    | true => exact fix_lay P hP f (hP _ _ _)
    | false => exact h
theorem fin_lay {x : Int} (P : LMap → Prop) (hP : ∀ wd m pl, P (layIt I wd ⟨x, m, pl⟩ N).m) : P (finA I x N).m := fix_lay P hP (N + 1) (hP _ _ _)
/-- A label at the very beginning is told as it. -/
theorem lay_first (wd : Nat → Bool) (x : Int) (m : LMap) (pl : Nat → Int) (h0 : isE (I.lb 0) = false) (hne : ∀ k, 0 < k → k < N → isE (I.lb k) = false → I.lb k ≠ I.lb 0) : ∀ k, 0 < k → k ≤ N → (layIt I wd ⟨x, m, pl⟩ k).m.val (.string (I.lb 0)) = x
  | 1, _, _ => by simp only [layIt, layStep, h0, cond_false, LMap.set, keq_self, cond_true]
  | k + 2, _, hk => by
    have ih := lay_first wd x m pl h0 hne (k + 1) (by omega) (by omega)
    rw [layIt]
    simp only [layStep]
    cases hl : isE (I.lb (k + 1)) with
    | true => exact ih
    | false =>
      simp only [cond_false, LMap.set]
      rw [keq_ne (fun e => hne (k + 1) (by omega) (by omega) hl e.symm)]
      exact ih
end
/-! ### words that are right -/
theorem bits_and1 (t : Int) : bits2 .and .i64 (4 * t) 1 = 0 := by
  unfold bits2
  have : (BitVec.ofInt IntKind.i64.bits (4 * t) &&& BitVec.ofInt IntKind.i64.bits 1).toNat = 0 := by
    rw [BitVec.toNat_and]
    have h1 : (BitVec.ofInt IntKind.i64.bits 1).toNat = 1 := by decide
    rw [h1, Nat.and_one_is_mod]
    have h2 : ((BitVec.ofInt IntKind.i64.bits (4 * t)).toNat : Int) = (4 * t) % 18446744073709551616 := by
      rw [BitVec.toNat_ofInt]
      show ((((4 * t) % ((2 ^ 64 : Nat) : Int)).toNat : Nat) : Int) = _
      rw [Int.toNat_of_nonneg (Int.emod_nonneg _ (by decide))]
      rfl
    omega
  simp only [this]
  rfl
end Go.X
namespace Go.X
open Go Go.Proofs
set_option linter.unusedVariables false
set_option linter.unusedSimpArgs false
/-! ### the law of items without labels -/
def plI (J : Nat → Ins) : Its := ⟨fun _ => ⟨#[]⟩, fun _ => ⟨#[]⟩, fun j => (J j).op, fun j => (J j).rd, fun j => (J j).rs1, fun j => (J j).rs2, fun j => (J j).imm, fun _ => 0⟩
theorem pl_isE : isE ⟨#[]⟩ = true := by kernel_rfl
def plOk (J : Nat → Ins) : Nat → Bool
  | 0 => true
  | k + 1 => plOk J k && okI (J k)
theorem pl_goodF (op rd rs1 rs2 imm : Int) : goodF ⟨#[]⟩ op rd rs1 rs2 imm ⟨#[]⟩ 0 = bif (encF op rd rs1 rs2 imm).2 != 0 then false else true := by kernel_rfl
section
variable (J : Nat → Ins)
theorem pl_good (k : Nat) : goodK (plI J) k = okI (J k) := by
  refine (pl_goodF _ _ _ _ _).trans ?_
  unfold okI
  show (bif (encF (J k).op (J k).rd (J k).rs1 (J k).rs2 (J k).imm).2 != 0 then false else true) = ((encF (J k).op (J k).rd (J k).rs1 (J k).rs2 (J k).imm).2 == 0)
  generalize (encF (J k).op (J k).rd (J k).rs1 (J k).rs2 (J k).imm).2 = e
  show (bif !(e == 0) then false else true) = (e == 0)
  cases (e == 0) <;> rfl
theorem pl_goodTo : ∀ k, goodTo (plI J) k = plOk J k
  | 0 => rfl
  | k + 1 => by simp only [goodTo, plOk, pl_goodTo k, pl_good J k]
theorem pl_chk : ∀ k, chkIt (plI J) m0 k = ⟨m0, false⟩
  | 0 => rfl
  | k + 1 => by
    simp only [chkIt, pl_chk k, chkStep, cond_false]
    show (bif m0.has _ then _ else (⟨bif isE ⟨#[]⟩ then _ else _, false⟩ : CSt)) = _
    rw [pl_isE]; rfl
theorem pl_found (m : LMap) : ∀ k, foundTo (plI J) m k = true
  | 0 => rfl
  | k + 1 => by
    simp only [foundTo, pl_found m k, Bool.true_and]
    show (isE ⟨#[]⟩ || _) = true
    rw [pl_isE]; rfl
theorem pl_check {N : Nat} {x : Int} (hN : N ≤ 65536) (hb : badAt x = false) : checkE (plI J) x N m0 = bif plOk J N then 0 else 2 := by
  have h2 : decide ((N : Int) > 65536) = false := by simp; omega
  simp only [checkE, hb, h2, cond_false, pl_goodTo, pl_chk, pl_found, Bool.not_true]
  cases plOk J N <;> rfl
theorem pl_checkM {N : Nat} {x : Int} : checkM (plI J) x N m0 = m0 := by
  unfold checkM
  rw [pl_chk]
  cases chkLate (plI J) x N <;> rfl
theorem pl_lay (wd : Nat → Bool) (s : LSt) : ∀ k, (layIt (plI J) wd s k).m = s.m
  | 0 => rfl
  | k + 1 => by
    simp only [layIt, layStep]
    show (bif isE ⟨#[]⟩ then (_ : LSt) else _).m = _
    rw [pl_isE]
    exact pl_lay wd s k
theorem pl_fix (x : Int) (N : Nat) : ∀ f (s : ASt), s.m = m0 → (fixN (plI J) x N f s).m = m0
  | 0, s, h => h
  | f + 1, s, h => by
    simp only [fixN]
    cases (widN (plI J) N s).more with
    | false => exact h
    | true => exact pl_fix x N f _ ((pl_lay J _ _ N).trans h)
theorem pl_fin (x : Int) (N : Nat) : (finA (plI J) x N).m = m0 := by
  refine pl_fix J x N _ _ ?_
  refine (pl_lay J _ _ N).trans ?_
  exact pl_checkM J
theorem pl_words (s : ASt) : ∀ k, insTo (plI J) s k = (List.range k).map J
  | 0 => rfl
  | k + 1 => by
    have e : isE ((plI J).lb k) = true := pl_isE
    have e2 : isE ((plI J).to k) = true := pl_isE
    have h1 : wordsN (plI J) s.wd k = 1 := by simp only [wordsN, twoF, e2, Bool.not_true, Bool.false_and, cond_false]
    have h2 : wordA (plI J) s.wd s.m s.pl k = J k := by simp only [wordA, e2, cond_true]; rfl
    have h3 : insK (plI J) s k 1 = [J k] := by
      show [wordI (plI J) s.wd s.m s.pl k 0] = _
      simp only [wordI, Nat.beq_refl, cond_true, h2]
    simp only [insTo, e, cond_true, h1, h3, pl_words s k, List.range_succ, List.map_append, List.map_cons, List.map_nil]
theorem plOk_all : ∀ k, ((List.range k).map J).all okI = plOk J k
  | 0 => rfl
  | k + 1 => by
    simp only [List.range_succ, List.map_append, List.map_cons, List.map_nil, List.all_append, plOk_all k, List.all_cons, List.all_nil, Bool.and_true, plOk]
theorem pl_W (x : Int) (N : Nat) : asmW (plI J) x N = (List.range N).map fun j => encW (J j) := by
  unfold asmW
  rw [pl_words, List.map_map]; rfl
theorem pl_Wlen (x : Int) (N : Nat) : (asmW (plI J) x N).length = N := by rw [pl_W]; simp
theorem pl_Wget (x : Int) {N j : Nat} (h : j < N) : (asmW (plI J) x N).getD j 0 = encW (J j) := by
  rw [pl_W]; simp [List.getD, h]
theorem pl_E {N : Nat} {x : Int} (hN : N ≤ 65536) (hb : badAt x = false) : asmE (plI J) x N = bif plOk J N then 0 else 2 := by
  have h5 : decide (((asmW (plI J) x N).length : Int) > 65536) = false := by rw [pl_Wlen]; simp; omega
  unfold asmE
  rw [pl_check J hN hb, pl_words, plOk_all, h5]
  cases plOk J N <;> rfl
end
end Go.X
namespace Go.X
open Go Go.Proofs
set_option linter.unusedVariables false
set_option linter.unusedSimpArgs false
attribute [local congr] cond_ctx
theorem p4_z0 (C : Nat) (J : Nat → Ins) (x : Int) : walk (lookF FL) scR 1000 x4_24 (mkT [31, 5, 6, 7, 30, 29, 1] [Value.int IntKind.i64 0, Value.slice none 0 0, Value.slice none 0 0, Value.bool true, Value.int IntKind.i64 0, Value.slice (some (Addr.mk 2 0 none)) 0 C, Value.int IntKind.i64 x]) (mkH [(2, Blk.rows 0 5 (insR J) false true)]) 102 (Pj.mk [5, 6, 7] [] [1] [2]) (Pj.mk [] [] [] []) (Pj.mk [] [] [] []) = some (Stop.mk (Leaf.mk [some (true, Value.slice none 0 0), some (true, Value.slice none 0 0), some (true, Value.bool true)] [] (Exit.exit 0) 102) none) := by kernel_rfl
theorem p4_z1 (J : Nat → Ins) (x : Int) : walk (lookF FL) scR 1000 x4_62 (mkT [5, 6, 7, 1] [Value.slice none 0 0, Value.slice none 0 0, Value.bool true, Value.int IntKind.i64 x]) (mkH [(2, Blk.rows 0 5 (insR J) false true)]) 102 (Pj.mk [] [] [] []) (Pj.mk [4] [] [] [2]) (Pj.mk [90, 89] [] [] [2]) = bif !badAt x then some (Stop.mk (Leaf.mk [some (true, Value.int IntKind.i64 0), some (true, Value.int IntKind.i64 0)] [] Exit.normal 103) (some (x4_53, [Cx.bl 2, Cx.sq x4_58]))) else none := Eq.trans (b := bif !badAt x && true then some (Stop.mk (Leaf.mk [some (true, Value.int IntKind.i64 0), some (true, Value.int IntKind.i64 0)] [] Exit.normal 103) (some (x4_53, [Cx.bl 2, Cx.sq x4_58]))) else none) (by kernel_rfl) (by simp (contextual := true) only [bn, bc])
theorem p4_z2 (J : Nat → Ins) : walk (lookF FL) scR 1000 x4_53 (mkT [90, 89] [Value.int IntKind.i64 0, Value.int IntKind.i64 0]) (mkH [(2, Blk.rows 0 5 (insR J) false true)]) 102 (Pj.mk [] [] [] [2]) (Pj.mk [4] [] [] [2]) (Pj.mk [] [] [] []) = some (Stop.mk (Leaf.mk [] [] (Exit.exit 2) 102) none) := by kernel_rfl
theorem p4_z3 (J : Nat → Ins) : walk (lookF FL) scR 1000 x4_58 (mkT [] []) (mkH [(2, Blk.rows 0 5 (insR J) false true)]) 102 (Pj.mk [] [] [] []) (Pj.mk [4] [] [] [2]) (Pj.mk [] [] [] []) = some (Stop.mk (Leaf.mk [some (true, Value.bool true)] [] Exit.ret 102) none) := by kernel_rfl
end Go.X
namespace Go.X
open Go Go.Proofs
set_option linter.unusedVariables false
set_option linter.unusedSimpArgs false
theorem beq_dec (a b : Nat) : Nat.beq a b = decide (a = b) := by
  by_cases h : a = b
  · subst h; simp
  · rw [beq_ff h]; simp [h]
/-- A piece, then the rest. -/
theorem xwp_seqW {E : FEnv} {Q : Post} {s : St} {F : Fns} {sc : Short} {x y : XCode} {p r q : Pj} {l : Leaf} (hcl : Cl E.toEnv Q) (hF : FnsOK E.P F sc) (k : Nat) (he : walk F sc k x s.t s.h s.n p r q = some ⟨l, none⟩) (hn : l.e = .normal) (s' : St)
    (hl : LeafTo E ((pjOf p r l.e).ks ++ (pjOf p r l.e).uk) (ext (pjOf p r l.e) s.t s.h l) s') (hQ : XWP E.toEnv y Q s') : XWP E.toEnv (.seq x y) Q s :=
  xwp_seq (xwp_toEnd (cl_seqP hcl) hF k he s' hl (by rw [hn]; exact hQ))
def mvAt (a : Int) : Int := IntKind.i64.wrap (4 * IntKind.i64.wrap ((IntKind.u64.wrap a).tmod 1000000))
theorem u64_wrap (a : Int) : IntKind.u64.wrap a = a % 18446744073709551616 := by
  simp [IntKind.wrap, IntKind.bits, IntKind.signed]
theorem mvAt_facts (a : Int) : 0 ≤ mvAt a ∧ mvAt a ≤ 3999996 ∧ mvAt a % 4 = 0 := by
  have h1 : (0 : Int) ≤ IntKind.u64.wrap a := by rw [u64_wrap]; omega
  have h2 : (IntKind.u64.wrap a).tmod 1000000 = (IntKind.u64.wrap a) % 1000000 := Int.tmod_eq_emod_of_nonneg h1
  unfold mvAt
  rw [h2, wrap_i (n := IntKind.u64.wrap a % 1000000) (by omega) (by omega), wrap_i (by omega) (by omega)]
  omega
theorem bis_str {P : Program} {σ : Nm} {m n : Nat} {I : Its} {f : Nat → List Value} {o r r' : Bool} (h : ∀ j, j < m → f j = I.row j) (hr : r' = true ∨ r = false) : BIs P σ (.rows m 8 I.row true r') (.rows m 8 f o r) :=
  ⟨rfl, rfl, fun j hj => by rw [h j hj]; rfl, .inl rfl, hr⟩
end Go.X
