import Derived.Test.YtnekegldodbgjaaC37
import Derived.Laws.IdiomRangeMap
set_option linter.all false
set_option linter.unusedVariables false
set_option linter.unusedSimpArgs false
namespace Go.X
open Go Go.Proofs
set_option linter.unusedVariables false
set_option linter.unusedSimpArgs false
/-! ### Assemble: what is laid where, and what it is wherever it is laid -/
section
variable (I : Its)
def Lab (I : Its) (N : Nat) (q : ByteArray) : Prop := ∃ j, j < N ∧ isE (I.lb j) = false ∧ q = I.lb j
theorem keq_self (s : ByteArray) : keq (.string s) (.string s) = true := (keq_eq (d := .string) rfl rfl).2 rfl
theorem keq_ne {s t : ByteArray} (h : s ≠ t) : keq (.string s) (.string t) = false := by
  cases hk : keq (.string s) (.string t) with
  | false => rfl
  | true => exact absurd (by injection (keq_eq (d := .string) rfl rfl).1 hk) h
theorem sub_shift (a b d : Int) : a + d - (b + d) = a - b := by omega
/-- So far from where it begins. -/
def Off (x : Int) (N : Nat) (v : Int) : Prop := ∃ t : Int, v = x + 4 * t ∧ 0 ≤ t ∧ t ≤ 2 * N
theorem Off.mono {x v : Int} {k N : Nat} (h : Off x k v) (hk : k ≤ N) : Off x N v := by
  obtain ⟨t, h1, h2, h3⟩ := h
  exact ⟨t, h1, h2, by omega⟩
theorem lay_off (wd : Nat → Bool) (x : Int) (m : LMap) (pl : Nat → Int) (hx : 0 ≤ x) : ∀ k : Nat, x + 8 * k < 4611686018427387904 →
    Off x k (layIt I wd ⟨x, m, pl⟩ k).cur ∧ (∀ j, j < k → Off x k ((layIt I wd ⟨x, m, pl⟩ k).pl j)) ∧ (∀ q, Lab I k q → Off x k ((layIt I wd ⟨x, m, pl⟩ k).m.val (.string q)))
  | 0, _ => ⟨⟨0, by simp [layIt], by omega, by omega⟩, fun j hj => absurd hj (Nat.not_lt_zero j), fun q ⟨j, hj, _⟩ => absurd hj (Nat.not_lt_zero j)⟩
  | k + 1, hb => by
    obtain ⟨h1, h2, h3⟩ := lay_off wd x m pl hx k (by omega)
    obtain ⟨t, e, t0, t1⟩ := h1
    simp only [layIt, layStep]
    have hpl : ∀ j, j < k + 1 → Off x (k + 1) (upd (layIt I wd ⟨x, m, pl⟩ k).pl k (layIt I wd ⟨x, m, pl⟩ k).cur j) := by
      intro j hj
      simp only [upd]
      cases hjk : Nat.beq j k with
      | true => exact ⟨t, e, t0, by omega⟩
      | false =>
        have : j ≠ k := by rintro rfl; simp at hjk
        exact (h2 j (by omega)).mono (by omega)
    cases hl : isE (I.lb k) with
    | true =>
      simp only [cond_true]
      refine ⟨?_, hpl, ?_⟩
      · cases wd k with
        | true => exact ⟨t + 2, by simp only [cond_true]; rw [wrap_i (by omega) (by omega)]; omega, by omega, by omega⟩
        | false => exact ⟨t + 1, by simp only [cond_false]; rw [wrap_i (by omega) (by omega)]; omega, by omega, by omega⟩
      · rintro q ⟨j, hj, hj1, rfl⟩
        have : j ≠ k := by rintro rfl; rw [hl] at hj1; cases hj1
        exact (h3 _ ⟨j, by omega, hj1, rfl⟩).mono (by omega)
    | false =>
      simp only [cond_false]
      refine ⟨⟨t, e, t0, by omega⟩, hpl, ?_⟩
      rintro q ⟨j, hj, hj1, rfl⟩
      simp only [LMap.set]
      by_cases hq : I.lb j = I.lb k
      · rw [hq, keq_self]; exact ⟨t, e, t0, by omega⟩
      · rw [keq_ne hq, cond_false]
        have : j ≠ k := by rintro rfl; exact hq rfl
        exact (h3 _ ⟨j, by omega, hj1, rfl⟩).mono (by omega)
theorem lay_shift (wd : Nat → Bool) (x d : Int) (m m' : LMap) (pl pl' : Nat → Int) (hx : 0 ≤ x) (hx' : 0 ≤ x + d) : ∀ k : Nat, x + 8 * k < 4611686018427387904 → x + d + 8 * k < 4611686018427387904 →
    (layIt I wd ⟨x + d, m', pl'⟩ k).cur = (layIt I wd ⟨x, m, pl⟩ k).cur + d ∧ (∀ j, j < k → (layIt I wd ⟨x + d, m', pl'⟩ k).pl j = (layIt I wd ⟨x, m, pl⟩ k).pl j + d) ∧
      (∀ q, Lab I k q → (layIt I wd ⟨x + d, m', pl'⟩ k).m.val (.string q) = (layIt I wd ⟨x, m, pl⟩ k).m.val (.string q) + d)
  | 0, _, _ => ⟨rfl, fun j hj => absurd hj (Nat.not_lt_zero j), fun q ⟨j, hj, _⟩ => absurd hj (Nat.not_lt_zero j)⟩
  | k + 1, hb, hb' => by
    obtain ⟨h1, h2, h3⟩ := lay_shift wd x d m m' pl pl' hx hx' k (by omega) (by omega)
    obtain ⟨t, e, t0, t1⟩ := (lay_off I wd x m pl hx k (by omega)).1
    simp only [layIt, layStep]
    have hpl : ∀ j, j < k + 1 → upd (layIt I wd ⟨x + d, m', pl'⟩ k).pl k (layIt I wd ⟨x + d, m', pl'⟩ k).cur j = upd (layIt I wd ⟨x, m, pl⟩ k).pl k (layIt I wd ⟨x, m, pl⟩ k).cur j + d := by
      intro j hj
      simp only [upd]
      cases hjk : Nat.beq j k with
      | true => exact h1
      | false =>
        have : j ≠ k := by rintro rfl; simp at hjk
        exact h2 j (by omega)
    cases hl : isE (I.lb k) with
    | true =>
      simp only [cond_true]
      refine ⟨?_, hpl, ?_⟩
      · rw [h1]
        cases wd k with
        | true => simp only [cond_true]; rw [wrap_i (by omega) (by omega), wrap_i (by omega) (by omega)]; omega
        | false => simp only [cond_false]; rw [wrap_i (by omega) (by omega), wrap_i (by omega) (by omega)]; omega
      · rintro q ⟨j, hj, hj1, rfl⟩
        have : j ≠ k := by rintro rfl; rw [hl] at hj1; cases hj1
        exact h3 _ ⟨j, by omega, hj1, rfl⟩
    | false =>
      simp only [cond_false]
      refine ⟨h1, hpl, ?_⟩
      rintro q ⟨j, hj, hj1, rfl⟩
      simp only [LMap.set]
      by_cases hq : I.lb j = I.lb k
      · rw [hq, keq_self]; exact h1
      · rw [keq_ne hq, cond_false, cond_false]
        have : j ≠ k := by rintro rfl; exact hq rfl
        exact h3 _ ⟨j, by omega, hj1, rfl⟩
variable (N : Nat)
/-- All that is gone to is there. -/
def Known (I : Its) (N : Nat) : Prop := ∀ k, k < N → isE (I.to k) = false → Lab I N (I.to k)
structure Bd (x : Int) (s : ASt) : Prop where
  pl : ∀ j, j < N → Off x N (s.pl j)
  val : ∀ q, Lab I N q → Off x N (s.m.val (.string q))
structure Shf (d : Int) (s s' : ASt) : Prop where
  wd : s'.wd = s.wd
  pl : ∀ j, j < N → s'.pl j = s.pl j + d
  val : ∀ q, Lab I N q → s'.m.val (.string q) = s.m.val (.string q) + d
variable {I N}
theorem far_shift {d : Int} {s s' : ASt} (hK : Known I N) (h : Shf I N d s s') {wd : Nat → Bool} {k : Nat} (hk : k < N) : farF I s'.m s'.pl wd k = farF I s.m s.pl wd k := by
  unfold farF
  cases ht : isE (I.to k) with
  | true => simp
  | false => rw [h.pl k hk, h.val _ (hK k hk ht), sub_shift]
theorem wid_shift {d : Int} {s s' : ASt} (hK : Known I N) (h : Shf I N d s s') : ∀ k, k ≤ N → widIt I s'.m s'.pl ⟨false, s'.wd⟩ k = widIt I s.m s.pl ⟨false, s.wd⟩ k
  | 0, _ => by simp only [widIt, h.wd]
  | k + 1, hk => by simp only [widIt, widStep, wid_shift hK h k (by omega), far_shift hK h (show k < N by omega)]
theorem next_bd {x : Int} (hx : 0 ≤ x) (hb : x + 8 * N < 4611686018427387904) (s : ASt) : Bd I N x (nextA I x N s) := by
  obtain ⟨_, h2, h3⟩ := lay_off I (widN I N s).wd x s.m s.pl hx N hb
  exact ⟨h2, h3⟩
theorem next_shf {x d : Int} (hx : 0 ≤ x) (hx' : 0 ≤ x + d) (hb : x + 8 * N < 4611686018427387904) (hb' : x + d + 8 * N < 4611686018427387904) (hK : Known I N) {s s' : ASt} (h : Shf I N d s s') : Shf I N d (nextA I x N s) (nextA I (x + d) N s') := by
  have hw : widN I N s' = widN I N s := wid_shift hK h N (Nat.le_refl _)
  obtain ⟨_, h2, h3⟩ := lay_shift I (widN I N s).wd x d s.m s'.m s.pl s'.pl hx hx' N hb hb'
  refine ⟨by simp only [nextA, hw], ?_, ?_⟩
  · simp only [nextA, hw]; exact h2
  · simp only [nextA, hw]; exact h3
theorem fix_both {x d : Int} (hx : 0 ≤ x) (hx' : 0 ≤ x + d) (hb : x + 8 * N < 4611686018427387904) (hb' : x + d + 8 * N < 4611686018427387904) (hK : Known I N) : ∀ (f : Nat) {s s' : ASt}, Shf I N d s s' → Bd I N x s →
    Shf I N d (fixN I x N f s) (fixN I (x + d) N f s') ∧ Bd I N x (fixN I x N f s)
  | 0, _, _, h, h' => ⟨h, h'⟩
  | f + 1, s, s', h, h' => by
    have hw : widN I N s' = widN I N s := wid_shift hK h N (Nat.le_refl _)
    simp only [fixN, hw]
    cases (widN I N s).more with
    | true => exact fix_both hx hx' hb hb' hK f (next_shf hx hx' hb hb' hK h) (next_bd hx hb s)
    | false => exact ⟨h, h'⟩
theorem start_both {x d : Int} (hx : 0 ≤ x) (hx' : 0 ≤ x + d) (hb : x + 8 * N < 4611686018427387904) (hb' : x + d + 8 * N < 4611686018427387904) : Shf I N d (startA I x N) (startA I (x + d) N) ∧ Bd I N x (startA I x N) := by
  obtain ⟨_, h2, h3⟩ := lay_shift I (fun _ => false) x d (checkM I x N m0) (checkM I (x + d) N m0) (fun _ => 0) (fun _ => 0) hx hx' N hb hb'
  obtain ⟨_, h4, h5⟩ := lay_off I (fun _ => false) x (checkM I x N m0) (fun _ => 0) hx N hb
  exact ⟨⟨rfl, h2, h3⟩, ⟨h4, h5⟩⟩
theorem fin_both {x d : Int} (hx : 0 ≤ x) (hx' : 0 ≤ x + d) (hb : x + 8 * N < 4611686018427387904) (hb' : x + d + 8 * N < 4611686018427387904) (hK : Known I N) : Shf I N d (finA I x N) (finA I (x + d) N) ∧ Bd I N x (finA I x N) :=
  fix_both hx hx' hb hb' hK (N + 1) (start_both hx hx' hb hb').1 (start_both hx hx' hb hb').2
theorem word0_shift {d : Int} {s s' : ASt} (hK : Known I N) (hp : ∀ k, k < N → I.part k = 0) (h : Shf I N d s s') {k : Nat} (hk : k < N) : wordA I s'.wd s'.m s'.pl k = wordA I s.wd s.m s.pl k := by
  unfold wordA
  rw [h.wd]
  cases ht : isE (I.to k) with
  | true => simp only [cond_true]
  | false =>
    have e1 : (I.part k == 1) = false := by rw [hp k hk]; rfl
    have e2 : (I.part k == 2) = false := by rw [hp k hk]; rfl
    simp only [e1, e2, cond_false]
    rw [h.pl k hk, h.val _ (hK k hk ht), sub_shift]
theorem wordJ_shift {d : Int} {s s' : ASt} (hK : Known I N) (h : Shf I N d s s') {k : Nat} (hk : k < N) (ht : isE (I.to k) = false) : wordJ I s'.m s'.pl k = wordJ I s.m s.pl k := by
  unfold wordJ
  rw [h.pl k hk, h.val _ (hK k hk ht), sub_shift]
theorem insK_shift {d : Int} {s s' : ASt} (hK : Known I N) (hp : ∀ k, k < N → I.part k = 0) (h : Shf I N d s s') {k : Nat} (hk : k < N) : insK I s' k (wordsN I s'.wd k) = insK I s k (wordsN I s.wd k) := by
  rw [h.wd]
  unfold insK
  cases ht : isE (I.to k) with
  | true =>
    have : wordsN I s.wd k = 1 := by simp [wordsN, twoF, ht]
    rw [this]
    show [wordI I s'.wd s'.m s'.pl k 0] = [wordI I s.wd s.m s.pl k 0]
    exact congrArg (fun a => [a]) (word0_shift hK hp h hk)
  | false =>
    refine congrArg (fun f => List.map f _) (funext fun j => ?_)
    unfold wordI
    rw [word0_shift hK hp h hk, wordJ_shift hK h hk ht]
theorem insTo_shift {d : Int} {s s' : ASt} (hK : Known I N) (hp : ∀ k, k < N → I.part k = 0) (h : Shf I N d s s') : ∀ k, k ≤ N → insTo I s' k = insTo I s k
  | 0, _ => rfl
  | k + 1, hk => by simp only [insTo, insTo_shift hK hp h k (by omega), insK_shift hK hp h (show k < N by omega)]
end
end Go.X
namespace Go.X
open Go Go.Proofs
set_option linter.unusedVariables false
set_option linter.unusedSimpArgs false
section
variable {I : Its} {N : Nat}
theorem wid_none {m : LMap} {pl : Nat → Int} {wd : Nat → Bool} : ∀ {k : Nat}, (widIt I m pl ⟨false, wd⟩ k).more = false → ∀ j, j < k → farF I m pl wd j = false
  | 0, _, j, hj => absurd hj (Nat.not_lt_zero j)
  | k + 1, h, j, hj => by
    simp only [widIt, widStep] at h
    cases hf : farF I m pl (widIt I m pl ⟨false, wd⟩ k).wd k with
    | true => rw [hf] at h; cases h
    | false =>
      rw [hf] at h
      simp only [cond_false] at h
      by_cases e : j = k
      · subst e
        rw [(wid_facts I m pl wd j).2.1 h] at hf
        exact hf
      · exact wid_none h j (by omega)
theorem fix_done {x : Int} : ∀ (f : Nat) {s : ASt}, cntF s.wd N < f → (widN I N (fixN I x N f s)).more = false
  | 0, s, h => absurd h (Nat.not_lt_zero _)
  | f + 1, s, h => by
    simp only [fixN]
    cases hm : (widN I N s).more with
    | true =>
      obtain ⟨h1, _, h3⟩ := wid_facts I s.m s.pl s.wd N
      have hlt : cntF (nextA I x N s).wd N < cntF s.wd N := cnt_lt h1 N (h3 hm)
      exact fix_done f (by omega)
    | false => exact hm
theorem fin_far (x : Int) (k : Nat) (hk : k < N) : farF I (finA I x N).m (finA I x N).pl (finA I x N).wd k = false :=
  wid_none (fix_done (N + 1) (Nat.lt_succ_of_le (cnt_le _ _))) k hk
/-- Only branches to a label have two words. -/
def WdOk (I : Its) (wd : Nat → Bool) : Prop := ∀ k, wd k = true → isE (I.lb k) = true ∧ branchF (I.op k) = true ∧ isE (I.to k) = false
theorem wid_ok {m : LMap} {pl : Nat → Int} {wd : Nat → Bool} (h : WdOk I wd) : ∀ k, WdOk I (widIt I m pl ⟨false, wd⟩ k).wd
  | 0 => h
  | k + 1 => by
    simp only [widIt, widStep]
    have ih := wid_ok (m := m) (pl := pl) h k
    cases hf : farF I m pl (widIt I m pl ⟨false, wd⟩ k).wd k with
    | false => exact ih
    | true =>
      intro j hj
      simp only [cond_true, upd] at hj
      cases hb : Nat.beq j k with
      | true =>
        have := Nat.eq_of_beq_eq_true hb
        subst this
        unfold farF at hf
        simp only [Bool.and_eq_true, Bool.not_eq_true'] at hf
        exact ⟨hf.1.1.1.1, hf.1.1.1.2, hf.1.1.2⟩
      | false => rw [hb] at hj; exact ih j hj
theorem fix_wd {x : Int} : ∀ (f : Nat) {s : ASt}, WdOk I s.wd → WdOk I (fixN I x N f s).wd
  | 0, s, h => h
  | f + 1, s, h => by
    simp only [fixN]
    cases (widN I N s).more with
    | true => exact fix_wd f (wid_ok h N)
    | false => exact h
theorem fin_wd (x : Int) : WdOk I (finA I x N).wd := fix_wd (N + 1) fun k hk => by simp [startA] at hk
/-- What is laid last comes of a laying. -/
theorem fix_lay {x : Int} (P : LMap → Prop) (hP : ∀ wd m pl, P (layIt I wd ⟨x, m, pl⟩ N).m) : ∀ (f : Nat) {s : ASt}, P s.m → P (fixN I x N f s).m
  | 0, s, h => h
  | f + 1, s, h => by
    simp only [fixN]
    cases (widN I N s).more with
    | true => exact fix_lay P hP f (hP _ _ _)
    | false => exact h
theorem fin_lay {x : Int} (P : LMap → Prop) (hP : ∀ wd m pl, P (layIt I wd ⟨x, m, pl⟩ N).m) : P (finA I x N).m := fix_lay P hP (N + 1) (hP _ _ _)
/-- A label at the very beginning is told as it. -/
theorem lay_first (wd : Nat → Bool) (x : Int) (m : LMap) (pl : Nat → Int) (h0 : isE (I.lb 0) = false) (hne : ∀ k, 0 < k → k < N → isE (I.lb k) = false → I.lb k ≠ I.lb 0) : ∀ k, 0 < k → k ≤ N → (layIt I wd ⟨x, m, pl⟩ k).m.val (.string (I.lb 0)) = x
  | 1, _, _ => by simp only [layIt, layStep, h0, cond_false, LMap.set, keq_self, cond_true]
  | k + 2, _, hk => by
    have ih := lay_first wd x m pl h0 hne (k + 1) (by omega) (by omega)
    rw [layIt]
    simp only [layStep]
    cases hl : isE (I.lb (k + 1)) with
    | true => exact ih
    | false =>
      simp only [cond_false, LMap.set]
      rw [keq_ne (fun e => hne (k + 1) (by omega) (by omega) hl e.symm)]
      exact ih
end
/-! ### words that are right -/
theorem bits_and1 (t : Int) : bits2 .and .i64 (4 * t) 1 = 0 := by
  unfold bits2
  have : (BitVec.ofInt IntKind.i64.bits (4 * t) &&& BitVec.ofInt IntKind.i64.bits 1).toNat = 0 := by
    rw [BitVec.toNat_and]
    have h1 : (BitVec.ofInt IntKind.i64.bits 1).toNat = 1 := by decide
    rw [h1, Nat.and_one_is_mod]
    have h2 : ((BitVec.ofInt IntKind.i64.bits (4 * t)).toNat : Int) = (4 * t) % 18446744073709551616 := by
      rw [BitVec.toNat_ofInt]
      show ((((4 * t) % ((2 ^ 64 : Nat) : Int)).toNat : Nat) : Int) = _
      rw [Int.toNat_of_nonneg (Int.emod_nonneg _ (by decide))]
      rfl
    omega
  simp only [this]
  rfl
end Go.X
namespace Go.X
open Go Go.Proofs
set_option linter.unusedVariables false
set_option linter.unusedSimpArgs false
/-! ### AsmLabels: the names, the items -/
def nameB (i : Int) : ByteArray := ⟨⟨[108, u8Of [Value.int .u8 (IntKind.u8.wrap (97 + IntKind.u8.wrap i))]]⟩⟩
theorem p19 (i : Int) : execC (lookF FL) noSc 1000 x19 (argTm 0 [.int .i64 i]) [] 100 (valK [2]) = some [.string (nameB i)] := by kernel_rfl
theorem c19 (i : Int) (n : Nat) : ADet Try.prog 19 [.int .i64 i] [] (.string (nameB i)) [] n 0 := adet_tree FOK 1000 fx19 (by simp) [2] (p19 i) rfl rfl rfl rfl n
def g19 : List Value → Option Value
  | [.int .i64 i] => some (.string (nameB i))
  | _ => none
def con19 : Con Try.prog := pureC 19 g19 fun vs v n h => by
  unfold g19 at h
  split at h
  · cases h; exact c19 _ n
  · cases h
/-- The items: c plain ones, m labels, m jumps. -/
def lbI (c m : Nat) : Its where
  lb := fun j => bif Nat.blt j c then ⟨#[]⟩ else bif Nat.blt j (c + m) then nameB ((j - c : Nat) : Int) else ⟨#[]⟩
  to := fun j => bif Nat.blt j (c + m) then ⟨#[]⟩ else nameB ((j - (c + m) : Nat) : Int)
  op := fun j => bif Nat.blt j c then 28 else bif Nat.blt j (c + m) then 0 else 53
  rd := fun _ => 0
  rs1 := fun _ => 0
  rs2 := fun _ => 0
  imm := fun _ => 0
  part := fun _ => 0
/-- What is asked of Assemble, at one case. -/
def lbChk (c m : Nat) : Bool :=
  (fun (A : ASt) => asmE (lbI c m) 0 (c + m + m) == 0 && A.m.n == m &&
    (fun (W : List Int) => W.length == c + m && (List.range m).all fun i => A.m.val (.string (nameB (i : Int))) == 4 * (c : Int) && W.getD (c + i) 0 == encW ⟨53, 0, 0, 0, -4 * (i : Int)⟩)
      ((insTo (lbI c m) A (c + m + m)).map encW)) (finA (lbI c m) 0 (c + m + m))
end Go.X
namespace Go.X
open Go Go.Proofs
set_option linter.unusedVariables false
set_option linter.unusedSimpArgs false
/-- Assemble, where something is wrong. -/
theorem c17_errT (N C : Nat) (at_ : Int) (I : Its) (hN : N ≤ 1000000000) (he : asmE I at_ N ≠ 0) (b n : Nat) (hb : b < n) {f : Nat → List Value} {o : Bool} (hf : ∀ j, j < N → f j = I.row j) :
    ADet Try.prog 17 [.slice (some ⟨b, 0, none⟩) N C, .int .i64 at_] [(b, some (.rows N 8 f o true))] (nilsE (asmE I at_ N)) [] n 0 := by
  have bb := beq_tt b
  have s3 : asc ([] ++ flip [(2, b)]) b = some 2 := by simp only [List.nil_append, flip, asc, bb, cond_true]
  refine adet_of_body (b17_err N C at_ I hN he) [(2, b)] [] ?_ rfl ?_ ?_ rfl ?_ ?_
  · refine (show ((Nat.blt 2 100 && Nat.beq b b && true) && true && true && true) = true from ?_)
    simp [lt_blt]
  · refine ⟨?_, trivial⟩
    show (match hget [(b, some (Blk.rows N 8 f o true))] b with | some x => BIs Try.prog (asc [(2, b)]) (.rows N 8 I.row false true) x | none => False)
    simp only [hget, bb, cond_true]
    exact ⟨rfl, rfl, fun j hj => by rw [hf j hj]; rfl, .inr (.inr rfl), .inl rfl⟩
  · rfl
  · simp only [List.cons_append, List.nil_append, HsOK, natMem, Bool.or_false, Bool.false_or]
    rw [show asc (flip [(2, b)]) b = some 2 from s3]
    exact ⟨⟨rfl, rfl, fun j hj => by rw [hf j hj]; rfl, .inr (.inl rfl), .inl rfl⟩, trivial⟩
  · simp only [List.cons_append, List.nil_append, namesOf, natMem, Bool.or_false, Bool.false_or]
    rw [show asc (flip [(2, b)]) b = some 2 from s3]
    rfl
theorem c17_err (N C : Nat) (at_ : Int) (I : Its) (hN : N ≤ 1000000000) (he : asmE I at_ N ≠ 0) (b n : Nat) (hb : b < n) {f : Nat → List Value} {o r : Bool} (hf : ∀ j, j < N → f j = I.row j) :
    ADet Try.prog 17 [.slice (some ⟨b, 0, none⟩) N C, .int .i64 at_] [(b, some (.rows N 8 f o r))] (nilsE (asmE I at_ N)) [] n 0 := by
  have h := c17_errT N C at_ I hN he b n hb (o := o) hf
  cases r with
  | true => exact h
  | false => exact adet_demote h (by simp [fstL]) rfl
noncomputable def con17err : Con Try.prog where
  f := 17
  run := fun vs h n => match vs with
    | [.slice (some ⟨b, 0, none⟩) N C, .int .i64 a] => match hget h b with
      | some (.rows N' st f o r) => some ([(b, some (.rows N' st f o r))], nilsE (asmE (itsOf f) a N), [], 0,
          decP (N' = N ∧ (∀ j, j < N → f j = (itsOf f).row j) ∧ N ≤ 1000000000 ∧ asmE (itsOf f) a N ≠ 0) && (Nat.beq st 8 && Nat.blt b n))
      | _ => none
    | _ => none
  ok := fun vs h n pre v upd news hx => by
    split at hx
    · rename_i b N C a
      split at hx
      · rename_i N' st f o r hg
        simp only [Option.some.injEq, Prod.mk.injEq, Bool.and_eq_true] at hx
        obtain ⟨rfl, rfl, rfl, rfl, hA, hst, hbn⟩ := hx
        obtain ⟨rfl, hf, hN, he⟩ := of_decP hA
        have := Nat.eq_of_beq_eq_true hst
        subst this
        refine ⟨fun id hid => ?_, c17_err _ _ _ _ hN he b n (blt_lt hbn) hf⟩
        simp only [fstL, List.mem_cons, List.not_mem_nil, or_false] at hid
        subst hid
        rw [hg]
        simp [hget]
      · cases hx
    · cases hx
noncomputable abbrev scP : Short := scOf [con17ok, con16, con18]
theorem FOKP : FnsOK Try.prog (lookF FL) scP := fok FOK _
noncomputable abbrev scQ : Short := scOf [con17err, con16, con18]
theorem FOKQ : FnsOK Try.prog (lookF FL) scQ := fok FOK _
noncomputable abbrev scN : Short := scOf [con16, con18]
theorem FOKN : FnsOK Try.prog (lookF FL) scN := fok FOK _
end Go.X
namespace Go.X
open Go Go.Proofs
set_option linter.unusedVariables false
set_option linter.unusedSimpArgs false
/-! ### pieces run by the machine within what is done by hand -/
/-- A piece, from the world as it is now: what it hasn't got stays as it is now. -/
theorem rebase {P : Program} {N : Nat} {c : Code} {x : XCode} (hc : comp P N c = some x) (hm : P.follows .mixedOrders = true) {B : Base} {s : St} {a : Act} {w : World} {Q : Post} (h : Rel P N B s a w)
    (hx : ∀ ρ, Core P N B ρ s.t (hget s.h) a w → XWP ⟨P, N, ⟨ρ, s.n, Own ρ (hget s.h), w⟩, hm⟩ x Q s) :
    c.wp P (fun e a' w' => ∃ ρ, Core P N B ρ s.t (hget s.h) a w ∧ ∃ s1, Q e s1 ∧ Rel P N ⟨ρ, s.n, Own ρ (hget s.h), w⟩ s1 a' w') a w := by
  obtain ⟨hn, ρ, hcore, hfree⟩ := h
  have hr : Rel P N ⟨ρ, s.n, Own ρ (hget s.h), w⟩ s a w :=
    ⟨Nat.le_refl _, ρ, ⟨hcore.tm, hcore.sz, hcore.df, hcore.rel, Fr.refl _ _, fun k hk => .inl hk, Le.refl _, fun id h0 h1 => absurd h0 h1⟩, fun _ _ => rfl⟩
  refine wp_mono (hx ρ hcore c hc a w hr) ?_
  rintro e a' w' ⟨s1, hq, hr1⟩
  exact ⟨ρ, hcore, s1, hq, hr1⟩
/-- What a round leaves. -/
def roundC {ι : Type} (R : ι → Act → World → Prop) (μ : ι → Nat) (k : ι) (Q : Exit → Act → World → Prop) : Exit → Act → World → Prop := fun e a w => match e with
  | .normal => ∃ k', μ k' < μ k ∧ R k' a w
  | e => Q e a w
/-- A loop, by hand. -/
theorem wp_loopC {P : Program} {ca : Code} {Q : Exit → Act → World → Prop} {ι : Type} (R : ι → Act → World → Prop) (μ : ι → Nat)
    (round : ∀ k a w, R k a w → ca.wp P (roundC R μ k Q) a w) (k : ι) (a : Act) (w : World) (h : R k a w) : (Code.loop ca).wp P Q a w := by
  have hm : ∀ m, ∀ k a w, μ k = m → R k a w → ∀ (b : Frame) (kk : List Item) (cs : List Frame), ∃ e a' w', Q e a' w' ∧ Arrives P (lone (b.at a (.code ca :: .inLoop ca :: kk)) cs w) b kk cs e a' w' := by
    intro m
    induction m using Nat.strongRecOn with
    | _ m ih =>
      intro k a w hk hr b kk cs
      obtain ⟨e, a₁, w₁, hq, harr⟩ := round k a w hr b (.inLoop ca :: kk) cs
      cases e with
      | normal =>
        obtain ⟨k', hlt, hr'⟩ := hq
        obtain ⟨e₂, a₂, w₂, hq₂, harr₂⟩ := ih (μ k') (hk ▸ hlt) k' a₁ w₁ rfl hr' b kk cs
        exact ⟨e₂, a₂, w₂, hq₂, .of_steps (Steps.trans harr (.one step_inLoop)) harr₂⟩
      | exit id => exact ⟨_, a₁, w₁, hq, .pass (x := .inLoop ca) rfl (fun _ _ => .inl (by simp)) harr⟩
      | goto l => exact ⟨_, a₁, w₁, hq, .pass (x := .inLoop ca) rfl (fun _ _ => .inl (by simp)) harr⟩
      | ret => exact ⟨_, a₁, w₁, hq, .pass (x := .inLoop ca) rfl (fun _ _ => .inl (by simp)) harr⟩
      | panic ch => exact ⟨_, a₁, w₁, hq, .pass (x := .inLoop ca) rfl (fun _ _ => .inl (by simp)) harr⟩
      | outgrown => exact ⟨_, a₁, w₁, hq, .pass (x := .inLoop ca) rfl (fun _ _ => .inl (by simp)) harr⟩
  intro b kk cs
  obtain ⟨e, a', w', hq, harr⟩ := hm _ k a w rfl h b kk cs
  exact ⟨e, a', w', hq, .of_steps (.one step_loop) harr⟩
end Go.X
namespace Go.X
open Go Go.Proofs
set_option linter.unusedVariables false
set_option linter.unusedSimpArgs false
/-! ### Decode: its pieces -/
/-- One operation, by hand. -/
theorem wpOp_ok {P : Program} {ops : Array Oper} {Q : Exit → Act → World → Prop} {j : Nat} {o : Oper} {K : Act → World → Prop} {a : Act} {w w' : World} {v : Value} (hoj : ops[j]? = some o) (hg : o.guard = none)
    (h : (execOp a.eval o).run P w = .ok (.value v) w') (hK : K (a.put o.dst v) w') : wpOp P ops Q j K a w := by
  unfold wpOp
  rw [hoj]
  have hw : Region.wanted o (yielded ops a.tmps) = true := by unfold Region.wanted; rw [hg]
  simp only [hw, if_true]
  refine .inl ?_
  unfold Oper.wp
  rw [h]
  exact hK
def fstC : Code → Code
  | .seq a _ => a
  | c => c
def sndC : Code → Code
  | .seq _ b => b
  | c => c
def inC : Code → Code
  | .block _ a => a
  | .loop a => a
  | c => c
def opsC : Code → Array Oper
  | .region _ o _ => o
  | _ => #[]
noncomputable def body20 : Code := match Try.f20.body with
  | some c => c
  | none => .skip
theorem shape0 : ∃ i o, fstC body20 = .region i o false := by
  refine ⟨0, opsC (fstC body20), ?_⟩
  kernel_rfl
noncomputable def mid20 : Code := fstC (sndC body20)
noncomputable def loop20 : Code := sndC mid20
theorem shape1 : body20 = .seq (fstC body20) (.seq (.seq (.region 1 (opsC (fstC mid20)) false) loop20) (sndC (sndC body20))) := by kernel_rfl
noncomputable def round20 : Code := inC (inC loop20)
theorem shape2 : loop20 = .block 0 (.loop round20) := by kernel_rfl
end Go.X
namespace Go.X
open Go Go.Proofs
set_option linter.unusedVariables false
set_option linter.unusedSimpArgs false
section
variable {P : Program} {ρ : Operand → Value} {o : Oper} {w w' : World} {v : Value}
theorem exec_range {t : TypeId} {x : Operand} (ho : o.op = .range t x) (h : (Instr.range t (ρ x)).run P w = .ok v w') : (execOp ρ o).run P w = .ok (.value v) w' := by
  unfold execOp
  simp only [ho, Sem.run_bind, h, Result.andThen]
  rfl
theorem exec_next {x : Operand} {b : Bool} (ho : o.op = .next x b) (h : (Instr.next (ρ x) b o.type).run P w = .ok v w') : (execOp ρ o).run P w = .ok (.value v) w' := by
  unfold execOp
  simp only [ho, Sem.run_bind, h, Result.andThen]
  rfl
theorem exec_entry {x : Operand} (ho : o.op = .entry x) (h : (Instr.entry (ρ x)).run P w = .ok v w') : (execOp ρ o).run P w = .ok (.value v) w' := by
  unfold execOp
  simp only [ho, Sem.run_bind, h, Result.andThen]
  rfl
end
end Go.X
