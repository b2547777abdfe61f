import Derived.Test.YtnekegldodbgjaaA36
set_option linter.all false
set_option linter.unusedVariables false
set_option linter.unusedSimpArgs false
namespace Go.X
open Go Go.Proofs
set_option linter.unusedVariables false
set_option linter.unusedSimpArgs false
section
variable (N C : Nat) (at_ : Int) (I : Its)
variable {ρ : Rn} {w : World} {hd : ∀ id, 100 ≤ id → ρ id = none}
theorem fixN_more {f : Nat} {s : ASt} (h : (widN I N s).more = true) : fixN I at_ N (f + 1) s = fixN I at_ N f (nextA I at_ N s) := by simp [fixN, h]
theorem fixN_done {f : Nat} {s : ASt} (h : (widN I N s).more = false) : fixN I at_ N f s = s := by cases f <;> simp [fixN, h]
/-- Assemble, behind its first check. -/
theorem asm_rest (hN : N ≤ 1000000000) (hc : checkE I at_ N m0 = 0) {Q : Post} (hcl : Cl (EA N I ρ w hd).toEnv Q)
    (hErr : asmE I at_ N ≠ 0 → Q .ret (ErrSt N I (asmE I at_ N))) (hOk : asmE I at_ N = 0 → Q .ret (OkSt N I (asmW I at_ N) (finA I at_ N).m)) :
    XWP (EA N I ρ w hd).toEnv (.loop x17_15) (ctxP (EA N I ρ w hd).toEnv [.bl 0, .sq x17_67] Q) (S0A N C at_ I (startA I at_ N)) := by
  refine xwp_loopR (S0A N C at_ I) (fun s => ∃ f, cntF s.wd N < f ∧ fixN I at_ N f s = finA I at_ N) (fun s => cntF s.wd N) (startA I at_ N) ⟨N + 1, Nat.lt_succ_of_le (cnt_le _ _), rfl⟩ fun s hs => ?_
  obtain ⟨f, hf, hfix⟩ := hs
  refine asm_wide N C at_ I s hN (cl_round (cl_ctx hcl _)) (fun hm => ?_) (fun hm => ?_)
  · obtain ⟨f, rfl⟩ : ∃ f', f = f' + 1 := ⟨f - 1, by omega⟩
    rw [fixN_more N at_ I hm] at hfix
    obtain ⟨h1, _, h3⟩ := wid_facts I s.m s.pl s.wd N
    have hlt : cntF (nextA I at_ N s).wd N < cntF s.wd N := cnt_lt h1 N (h3 hm)
    exact ⟨nextA I at_ N s, ⟨f, by omega, hfix⟩, hlt, Wk.refl _ _⟩
  · rw [fixN_done N at_ I hm] at hfix
    subst hfix
    show XWP _ x17_67 Q _
    have ec := p17_c N C at_ I (finA I at_ N).wd (finA I at_ N).m (finA I at_ N).pl
    refine xwp_toLoop FOKE 1000 ec (S2A N C at_ I (finA I at_ N) 0 []) ⟨V2A N C 0 [], H2A N C at_ I (finA I at_ N) [], 105, rfl, rfl, ⟨rfl, rfl, rfl, rfl, rfl, trivial⟩, bis_bools, bis_lmap, bis_ints, rfl, bis_its, trivial⟩ ?_
    refine xwp_loopR (fun k => S2A N C at_ I (finA I at_ N) k ((insTo I (finA I at_ N) k).map encW)) (fun k => k ≤ N ∧ (insTo I (finA I at_ N) k).all okI = true) (fun k => N - k) 0 ⟨Nat.zero_le _, rfl⟩ fun k hk => ?_
    by_cases hlt : k < N
    · refine asm_item N C at_ I (finA I at_ N) k hlt hN hk.2 (cl_round (cl_ctx hcl _)) (fun ha => ⟨k + 1, ⟨hlt, ha⟩, Nat.sub_succ_lt_self N k hlt, Wk.refl _ _⟩) (fun ha => ?_)
      show Q .ret _
      have hN := ins_stop ha hlt
      have hE : asmE I at_ N = 16 := by simp only [asmE, hc, hN]; rfl
      have := hErr (by rw [hE]; decide)
      rwa [hE] at this
    · have hkN : k = N := by omega
      subst hkN
      have hend : XWP (EA k I ρ w hd).toEnv x17_65 Q (S2A k C at_ I (finA I at_ k) k ((insTo I (finA I at_ k) k).map encW)) := by
        refine asm_end k C at_ I (finA I at_ k) k _ hcl (fun hb => ?_) (fun hb => ?_)
        · have hb : decide (((asmW I at_ k).length : Int) > 65536) = true := hb
          have hE : asmE I at_ k = 3 := by simp only [asmE, hc, hk.2]; rw [hb]; rfl
          have := hErr (by rw [hE]; decide)
          rwa [hE] at this
        · have hb : decide (((asmW I at_ k).length : Int) > 65536) = false := hb
          exact hOk (by simp only [asmE, hc, hk.2]; rw [hb]; rfl)
      cases hlist : (insTo I (finA I at_ k) k).map encW with
      | nil =>
        rw [hlist] at hend
        have e := p17_dn k k C at_ I (finA I at_ k).wd (finA I at_ k).m (finA I at_ k).pl
        simp only [hlt, decide_false, cond_false] at e
        refine xwp_toEnd (cl_round (cl_ctx hcl _)) FOKE 1000 e (S2A k C at_ I (finA I at_ k) k []) ⟨V2A k C k [], H2A k C at_ I (finA I at_ k) [], 105, rfl, rfl, ⟨rfl, rfl, rfl, rfl, rfl, trivial⟩, bis_bools, bis_lmap, bis_ints, rfl, bis_its, trivial⟩ ?_
        exact hend
      | cons a t =>
        rw [hlist] at hend
        have e := p17_ds k (t.length + 1) (fun i => (a :: t).getD i 0) k C at_ I (finA I at_ k).wd (finA I at_ k).m (finA I at_ k).pl
        simp only [hlt, decide_false, cond_false] at e
        refine xwp_toEnd (cl_round (cl_ctx hcl _)) FOKE 1000 e (S2A k C at_ I (finA I at_ k) k (a :: t)) ⟨V2A k C k (a :: t), H2A k C at_ I (finA I at_ k) (a :: t), 105, rfl, rfl, ⟨rfl, rfl, rfl, rfl, rfl, trivial⟩, bis_u32, bis_bools, bis_lmap, bis_ints, rfl, bis_its, trivial⟩ ?_
        exact hend
/-- Assemble. -/
theorem asm_walk (hN : N ≤ 1000000000) {Q : Post} (hcl : Cl (EA N I ρ w hd).toEnv Q)
    (hErr : asmE I at_ N ≠ 0 → Q .ret (ErrSt N I (asmE I at_ N))) (hOk : asmE I at_ N = 0 → Q .ret (OkSt N I (asmW I at_ N) (finA I at_ N).m)) :
    XWP (EA N I ρ w hd).toEnv x17 Q ⟨argTm 0 [SLI N C, .int .i64 at_], preA N I, 100⟩ := by
  have hN' : N < 9223372036854775808 := by omega
  have e := p17_a N C at_ I
  have g1 : (decide (0 ≤ (N : Int)) && decide (N ≤ N) && decide ((N : Int) * 10 ≤ 1099511627776) && (decide (0 ≤ (N : Int)) && decide (N ≤ N) && decide ((N : Int) * 3 ≤ 1099511627776))) = true := by
    simp; omega
  rw [g1] at e
  simp only [cond_true] at e
  rw [decP_key, decP_key] at e
  · change walk _ _ _ _ _ _ _ _ _ _ = (bif checkE I at_ N m0 != 0 then _ else _) at e
    cases hb : checkE I at_ N m0 != 0 with
    | true =>
      rw [hb] at e
      have hE : asmE I at_ N = checkE I at_ N m0 := by simp only [asmE, hb, cond_true]
      have hne : asmE I at_ N ≠ 0 := by rw [hE]; simpa using hb
      have := hErr hne
      rw [hE] at this
      exact xwp_toEnd hcl FOKE 1000 e _ ⟨[.slice none 0 0, .map none, .int .i64 (checkE I at_ N m0)], [(2, .rows N 8 I.row false true)], 100, rfl, rfl, ⟨rfl, rfl, rfl, trivial⟩, bis_its, trivial⟩ this
    | false =>
      rw [hb] at e
      have hc : checkE I at_ N m0 = 0 := by simpa using hb
      exact xwp_toLoop FOKE 1000 e (S0A N C at_ I (startA I at_ N)) ⟨[pp, SLI N C], laidA N C at_ I (startA I at_ N).wd (startA I at_ N).m (startA I at_ N).pl, 104, rfl, rfl, ⟨rfl, rfl, trivial⟩, bis_bools, bis_lmap, bis_ints, rfl, bis_its, trivial⟩ (asm_rest N C at_ I hN hc hcl hErr hOk)
  · refine ⟨?_, ?_, ?_, ?_, ?_, hN'⟩ <;> first | trivial | rfl
  · refine ⟨?_, ?_, ?_, ?_, ?_, hN'⟩ <;> first | trivial | rfl
end
section
variable (N C : Nat) (at_ : Int) (I : Its)
theorem b17_err (hN : N ≤ 1000000000) (he : asmE I at_ N ≠ 0) : Body Try.prog 17 [SLI N C, .int .i64 at_] (preA N I) (nilsE (asmE I at_ N)) [] 100 0 :=
  body_of mixed fx17 (by simp) fun ρ w hd => asm_walk N C at_ I hN cl_fin (fun _ => fin_of rfl ⟨rfl, trivial⟩ rfl rfl) (fun h => absurd h he)
theorem b17_ok (hN : N ≤ 1000000000) (he : asmE I at_ N = 0) {a : Int} {t : List Int} (hW : asmW I at_ N = a :: t) : Body Try.prog 17 [SLI N C, .int .i64 at_] (preA N I)
    (.tuple ⟨[.slice (some ⟨100, 0, none⟩) (t.length + 1) (t.length + 1), .map (some 101), .int .i64 0]⟩) [(100, some (.rows (t.length + 1) 1 (fun j => [.int .u32 ((a :: t).getD j 0)]) true false)), (101, some (finA I at_ N).m.blk)] 100 2 :=
  body_of mixed fx17 (by simp) fun ρ w hd => asm_walk N C at_ I hN cl_fin (fun h => absurd he h) (fun _ => by
    rw [hW]
    exact fin_of rfl ⟨rfl, rfl, rfl, trivial⟩ rfl rfl)
theorem b17_nil (hN : N ≤ 1000000000) (he : asmE I at_ N = 0) (hW : asmW I at_ N = []) : Body Try.prog 17 [SLI N C, .int .i64 at_] (preA N I)
    (.tuple ⟨[.slice none 0 0, .map (some 101), .int .i64 0]⟩) [(101, some (finA I at_ N).m.blk)] 100 2 :=
  body_of mixed fx17 (by simp) fun ρ w hd => asm_walk N C at_ I hN cl_fin (fun h => absurd he h) (fun _ => by
    rw [hW]
    exact fin_of rfl ⟨rfl, rfl, trivial⟩ rfl rfl)
end
end Go.X
namespace Go.X
open Go Go.Proofs
set_option linter.unusedVariables false
set_option linter.unusedSimpArgs false
/-! ### Assemble: what is laid where, and what it is wherever it is laid -/
section
variable (I : Its)
def Lab (I : Its) (N : Nat) (q : ByteArray) : Prop := ∃ j, j < N ∧ isE (I.lb j) = false ∧ q = I.lb j
theorem keq_self (s : ByteArray) : keq (.string s) (.string s) = true := (keq_eq (d := .string) rfl rfl).2 rfl
theorem keq_ne {s t : ByteArray} (h : s ≠ t) : keq (.string s) (.string t) = false := by
  cases hk : keq (.string s) (.string t) with
  | false => rfl
  | true => exact absurd (by injection (keq_eq (d := .string) rfl rfl).1 hk) h
theorem sub_shift (a b d : Int) : a + d - (b + d) = a - b := by omega
/-- So far from where it begins. -/
def Off (x : Int) (N : Nat) (v : Int) : Prop := ∃ t : Int, v = x + 4 * t ∧ 0 ≤ t ∧ t ≤ 2 * N
theorem Off.mono {x v : Int} {k N : Nat} (h : Off x k v) (hk : k ≤ N) : Off x N v := by
  obtain ⟨t, h1, h2, h3⟩ := h
  exact ⟨t, h1, h2, by omega⟩
theorem lay_off (wd : Nat → Bool) (x : Int) (m : LMap) (pl : Nat → Int) (hx : 0 ≤ x) : ∀ k : Nat, x + 8 * k < 4611686018427387904 →
    Off x k (layIt I wd ⟨x, m, pl⟩ k).cur ∧ (∀ j, j < k → Off x k ((layIt I wd ⟨x, m, pl⟩ k).pl j)) ∧ (∀ q, Lab I k q → Off x k ((layIt I wd ⟨x, m, pl⟩ k).m.val (.string q)))
  | 0, _ => ⟨⟨0, by simp [layIt], by omega, by omega⟩, fun j hj => absurd hj (Nat.not_lt_zero j), fun q ⟨j, hj, _⟩ => absurd hj (Nat.not_lt_zero j)⟩
  | k + 1, hb => by
    obtain ⟨h1, h2, h3⟩ := lay_off wd x m pl hx k (by omega)
    obtain ⟨t, e, t0, t1⟩ := h1
    simp only [layIt, layStep]
    have hpl : ∀ j, j < k + 1 → Off x (k + 1) (upd (layIt I wd ⟨x, m, pl⟩ k).pl k (layIt I wd ⟨x, m, pl⟩ k).cur j) := by
      intro j hj
      simp only [upd]
      cases hjk : Nat.beq j k with
      | true => exact ⟨t, e, t0, by omega⟩
      | false =>
        have : j ≠ k := by rintro rfl; simp at hjk
        exact (h2 j (by omega)).mono (by omega)
    cases hl : isE (I.lb k) with
    | true =>
      simp only [cond_true]
      refine ⟨?_, hpl, ?_⟩
      · cases wd k with
        | true => exact ⟨t + 2, by simp only [cond_true]; rw [wrap_i (by omega) (by omega)]; omega, by omega, by omega⟩
        | false => exact ⟨t + 1, by simp only [cond_false]; rw [wrap_i (by omega) (by omega)]; omega, by omega, by omega⟩
      · rintro q ⟨j, hj, hj1, rfl⟩
        have : j ≠ k := by rintro rfl; rw [hl] at hj1; cases hj1
        exact (h3 _ ⟨j, by omega, hj1, rfl⟩).mono (by omega)
    | false =>
      simp only [cond_false]
      refine ⟨⟨t, e, t0, by omega⟩, hpl, ?_⟩
      rintro q ⟨j, hj, hj1, rfl⟩
      simp only [LMap.set]
      by_cases hq : I.lb j = I.lb k
      · rw [hq, keq_self]; exact ⟨t, e, t0, by omega⟩
      · rw [keq_ne hq, cond_false]
        have : j ≠ k := by rintro rfl; exact hq rfl
        exact (h3 _ ⟨j, by omega, hj1, rfl⟩).mono (by omega)
theorem lay_shift (wd : Nat → Bool) (x d : Int) (m m' : LMap) (pl pl' : Nat → Int) (hx : 0 ≤ x) (hx' : 0 ≤ x + d) : ∀ k : Nat, x + 8 * k < 4611686018427387904 → x + d + 8 * k < 4611686018427387904 →
    (layIt I wd ⟨x + d, m', pl'⟩ k).cur = (layIt I wd ⟨x, m, pl⟩ k).cur + d ∧ (∀ j, j < k → (layIt I wd ⟨x + d, m', pl'⟩ k).pl j = (layIt I wd ⟨x, m, pl⟩ k).pl j + d) ∧
      (∀ q, Lab I k q → (layIt I wd ⟨x + d, m', pl'⟩ k).m.val (.string q) = (layIt I wd ⟨x, m, pl⟩ k).m.val (.string q) + d)
  | 0, _, _ => ⟨rfl, fun j hj => absurd hj (Nat.not_lt_zero j), fun q ⟨j, hj, _⟩ => absurd hj (Nat.not_lt_zero j)⟩
  | k + 1, hb, hb' => by
    obtain ⟨h1, h2, h3⟩ := lay_shift wd x d m m' pl pl' hx hx' k (by omega) (by omega)
    obtain ⟨t, e, t0, t1⟩ := (lay_off I wd x m pl hx k (by omega)).1
    simp only [layIt, layStep]
    have hpl : ∀ j, j < k + 1 → upd (layIt I wd ⟨x + d, m', pl'⟩ k).pl k (layIt I wd ⟨x + d, m', pl'⟩ k).cur j = upd (layIt I wd ⟨x, m, pl⟩ k).pl k (layIt I wd ⟨x, m, pl⟩ k).cur j + d := by
      intro j hj
      simp only [upd]
      cases hjk : Nat.beq j k with
      | true => exact h1
      | false =>
        have : j ≠ k := by rintro rfl; simp at hjk
        exact h2 j (by omega)
    cases hl : isE (I.lb k) with
    | true =>
      simp only [cond_true]
      refine ⟨?_, hpl, ?_⟩
      · rw [h1]
        cases wd k with
        | true => simp only [cond_true]; rw [wrap_i (by omega) (by omega), wrap_i (by omega) (by omega)]; omega
        | false => simp only [cond_false]; rw [wrap_i (by omega) (by omega), wrap_i (by omega) (by omega)]; omega
      · rintro q ⟨j, hj, hj1, rfl⟩
        have : j ≠ k := by rintro rfl; rw [hl] at hj1; cases hj1
        exact h3 _ ⟨j, by omega, hj1, rfl⟩
    | false =>
      simp only [cond_false]
      refine ⟨h1, hpl, ?_⟩
      rintro q ⟨j, hj, hj1, rfl⟩
      simp only [LMap.set]
      by_cases hq : I.lb j = I.lb k
      · rw [hq, keq_self]; exact h1
      · rw [keq_ne hq, cond_false, cond_false]
        have : j ≠ k := by rintro rfl; exact hq rfl
        exact h3 _ ⟨j, by omega, hj1, rfl⟩
variable (N : Nat)
/-- All that is gone to is there. -/
def Known (I : Its) (N : Nat) : Prop := ∀ k, k < N → isE (I.to k) = false → Lab I N (I.to k)
structure Bd (x : Int) (s : ASt) : Prop where
  pl : ∀ j, j < N → Off x N (s.pl j)
  val : ∀ q, Lab I N q → Off x N (s.m.val (.string q))
structure Shf (d : Int) (s s' : ASt) : Prop where
  wd : s'.wd = s.wd
  pl : ∀ j, j < N → s'.pl j = s.pl j + d
  val : ∀ q, Lab I N q → s'.m.val (.string q) = s.m.val (.string q) + d
variable {I N}
theorem far_shift {d : Int} {s s' : ASt} (hK : Known I N) (h : Shf I N d s s') {wd : Nat → Bool} {k : Nat} (hk : k < N) : farF I s'.m s'.pl wd k = farF I s.m s.pl wd k := by
  unfold farF
  cases ht : isE (I.to k) with
  | true => simp
  | false => rw [h.pl k hk, h.val _ (hK k hk ht), sub_shift]
theorem wid_shift {d : Int} {s s' : ASt} (hK : Known I N) (h : Shf I N d s s') : ∀ k, k ≤ N → widIt I s'.m s'.pl ⟨false, s'.wd⟩ k = widIt I s.m s.pl ⟨false, s.wd⟩ k
  | 0, _ => by simp only [widIt, h.wd]
  | k + 1, hk => by simp only [widIt, widStep, wid_shift hK h k (by omega), far_shift hK h (show k < N by omega)]
theorem next_bd {x : Int} (hx : 0 ≤ x) (hb : x + 8 * N < 4611686018427387904) (s : ASt) : Bd I N x (nextA I x N s) := by
  obtain ⟨_, h2, h3⟩ := lay_off I (widN I N s).wd x s.m s.pl hx N hb
  exact ⟨h2, h3⟩
theorem next_shf {x d : Int} (hx : 0 ≤ x) (hx' : 0 ≤ x + d) (hb : x + 8 * N < 4611686018427387904) (hb' : x + d + 8 * N < 4611686018427387904) (hK : Known I N) {s s' : ASt} (h : Shf I N d s s') : Shf I N d (nextA I x N s) (nextA I (x + d) N s') := by
  have hw : widN I N s' = widN I N s := wid_shift hK h N (Nat.le_refl _)
  obtain ⟨_, h2, h3⟩ := lay_shift I (widN I N s).wd x d s.m s'.m s.pl s'.pl hx hx' N hb hb'
  refine ⟨by simp only [nextA, hw], ?_, ?_⟩
  · simp only [nextA, hw]; exact h2
  · simp only [nextA, hw]; exact h3
theorem fix_both {x d : Int} (hx : 0 ≤ x) (hx' : 0 ≤ x + d) (hb : x + 8 * N < 4611686018427387904) (hb' : x + d + 8 * N < 4611686018427387904) (hK : Known I N) : ∀ (f : Nat) {s s' : ASt}, Shf I N d s s' → Bd I N x s →
    Shf I N d (fixN I x N f s) (fixN I (x + d) N f s') ∧ Bd I N x (fixN I x N f s)
  | 0, _, _, h, h' => ⟨h, h'⟩
  | f + 1, s, s', h, h' => by
    have hw : widN I N s' = widN I N s := wid_shift hK h N (Nat.le_refl _)
    simp only [fixN, hw]
    cases (widN I N s).more with
    | true => exact fix_both hx hx' hb hb' hK f (next_shf hx hx' hb hb' hK h) (next_bd hx hb s)
    | false => exact ⟨h, h'⟩
theorem start_both {x d : Int} (hx : 0 ≤ x) (hx' : 0 ≤ x + d) (hb : x + 8 * N < 4611686018427387904) (hb' : x + d + 8 * N < 4611686018427387904) : Shf I N d (startA I x N) (startA I (x + d) N) ∧ Bd I N x (startA I x N) := by
  obtain ⟨_, h2, h3⟩ := lay_shift I (fun _ => false) x d (checkM I x N m0) (checkM I (x + d) N m0) (fun _ => 0) (fun _ => 0) hx hx' N hb hb'
  obtain ⟨_, h4, h5⟩ := lay_off I (fun _ => false) x (checkM I x N m0) (fun _ => 0) hx N hb
  exact ⟨⟨rfl, h2, h3⟩, ⟨h4, h5⟩⟩
theorem fin_both {x d : Int} (hx : 0 ≤ x) (hx' : 0 ≤ x + d) (hb : x + 8 * N < 4611686018427387904) (hb' : x + d + 8 * N < 4611686018427387904) (hK : Known I N) : Shf I N d (finA I x N) (finA I (x + d) N) ∧ Bd I N x (finA I x N) :=
  fix_both hx hx' hb hb' hK (N + 1) (start_both hx hx' hb hb').1 (start_both hx hx' hb hb').2
theorem word0_shift {d : Int} {s s' : ASt} (hK : Known I N) (hp : ∀ k, k < N → I.part k = 0) (h : Shf I N d s s') {k : Nat} (hk : k < N) : wordA I s'.wd s'.m s'.pl k = wordA I s.wd s.m s.pl k := by
  unfold wordA
  rw [h.wd]
  cases ht : isE (I.to k) with
  | true => simp only [cond_true]
  | false =>
    have e1 : (I.part k == 1) = false := by rw [hp k hk]; rfl
    have e2 : (I.part k == 2) = false := by rw [hp k hk]; rfl
    simp only [e1, e2, cond_false]
    rw [h.pl k hk, h.val _ (hK k hk ht), sub_shift]
theorem wordJ_shift {d : Int} {s s' : ASt} (hK : Known I N) (h : Shf I N d s s') {k : Nat} (hk : k < N) (ht : isE (I.to k) = false) : wordJ I s'.m s'.pl k = wordJ I s.m s.pl k := by
  unfold wordJ
  rw [h.pl k hk, h.val _ (hK k hk ht), sub_shift]
theorem insK_shift {d : Int} {s s' : ASt} (hK : Known I N) (hp : ∀ k, k < N → I.part k = 0) (h : Shf I N d s s') {k : Nat} (hk : k < N) : insK I s' k (wordsN I s'.wd k) = insK I s k (wordsN I s.wd k) := by
  rw [h.wd]
  unfold insK
  cases ht : isE (I.to k) with
  | true =>
    have : wordsN I s.wd k = 1 := by simp [wordsN, twoF, ht]
    rw [this]
    show [wordI I s'.wd s'.m s'.pl k 0] = [wordI I s.wd s.m s.pl k 0]
    exact congrArg (fun a => [a]) (word0_shift hK hp h hk)
  | false =>
    refine congrArg (fun f => List.map f _) (funext fun j => ?_)
    unfold wordI
    rw [word0_shift hK hp h hk, wordJ_shift hK h hk ht]
theorem insTo_shift {d : Int} {s s' : ASt} (hK : Known I N) (hp : ∀ k, k < N → I.part k = 0) (h : Shf I N d s s') : ∀ k, k ≤ N → insTo I s' k = insTo I s k
  | 0, _ => rfl
  | k + 1, hk => by simp only [insTo, insTo_shift hK hp h k (by omega), insK_shift hK hp h (show k < N by omega)]
end
end Go.X
namespace Go.X
open Go Go.Proofs
set_option linter.unusedVariables false
set_option linter.unusedSimpArgs false
section
variable {I : Its} {N : Nat}
theorem wid_none {m : LMap} {pl : Nat → Int} {wd : Nat → Bool} : ∀ {k : Nat}, (widIt I m pl ⟨false, wd⟩ k).more = false → ∀ j, j < k → farF I m pl wd j = false
  | 0, _, j, hj => absurd hj (Nat.not_lt_zero j)
  | k + 1, h, j, hj => by
    simp only [widIt, widStep] at h
    cases hf : farF I m pl (widIt I m pl ⟨false, wd⟩ k).wd k with
    | true => rw [hf] at h; cases h
    | false =>
      rw [hf] at h
      simp only [cond_false] at h
      by_cases e : j = k
      · subst e
        rw [(wid_facts I m pl wd j).2.1 h] at hf
        exact hf
      · exact wid_none h j (by omega)
theorem fix_done {x : Int} : ∀ (f : Nat) {s : ASt}, cntF s.wd N < f → (widN I N (fixN I x N f s)).more = false
  | 0, s, h => absurd h (Nat.not_lt_zero _)
  | f + 1, s, h => by
    simp only [fixN]
    cases hm : (widN I N s).more with
    | true =>
      obtain ⟨h1, _, h3⟩ := wid_facts I s.m s.pl s.wd N
      have hlt : cntF (nextA I x N s).wd N < cntF s.wd N := cnt_lt h1 N (h3 hm)
      exact fix_done f (by omega)
    | false => exact hm
theorem fin_far (x : Int) (k : Nat) (hk : k < N) : farF I (finA I x N).m (finA I x N).pl (finA I x N).wd k = false :=
  wid_none (fix_done (N + 1) (Nat.lt_succ_of_le (cnt_le _ _))) k hk
/-- Only branches to a label have two words. -/
def WdOk (I : Its) (wd : Nat → Bool) : Prop := ∀ k, wd k = true → isE (I.lb k) = true ∧ branchF (I.op k) = true ∧ isE (I.to k) = false
theorem wid_ok {m : LMap} {pl : Nat → Int} {wd : Nat → Bool} (h : WdOk I wd) : ∀ k, WdOk I (widIt I m pl ⟨false, wd⟩ k).wd
  | 0 => h
  | k + 1 => by
    simp only [widIt, widStep]
    have ih := wid_ok (m := m) (pl := pl) h k
    cases hf : farF I m pl (widIt I m pl ⟨false, wd⟩ k).wd k with
    | false => exact ih
    | true =>
      intro j hj
      simp only [cond_true, upd] at hj
      cases hb : Nat.beq j k with
      | true =>
        have := Nat.eq_of_beq_eq_true hb
        subst this
        unfold farF at hf
        simp only [Bool.and_eq_true, Bool.not_eq_true'] at hf
        exact ⟨hf.1.1.1.1, hf.1.1.1.2, hf.1.1.2⟩
      | false => rw [hb] at hj; exact ih j hj
theorem fix_wd {x : Int} : ∀ (f : Nat) {s : ASt}, WdOk I s.wd → WdOk I (fixN I x N f s).wd
  | 0, s, h => h
  | f + 1, s, h => by
    simp only [fixN]
    cases (widN I N s).more with
    | true => exact fix_wd f (wid_ok h N)
    | false => exact h
theorem fin_wd (x : Int) : WdOk I (finA I x N).wd := fix_wd (N + 1) fun k hk => by simp [startA] at hk
/-- What is laid last comes of a laying. -/
theorem fix_lay {x : Int} (P : LMap → Prop) (hP : ∀ wd m pl, P (layIt I wd ⟨x, m, pl⟩ N).m) : ∀ (f : Nat) {s : ASt}, P s.m → P (fixN I x N f s).m
  | 0, s, h => h
  | f + 1, s, h => by
    simp only [fixN]
    cases (widN I N s).more with
    | true => exact fix_lay P hP f (hP _ _ _)
    | false => exact h
theorem fin_lay {x : Int} (P : LMap → Prop) (hP : ∀ wd m pl, P (layIt I wd ⟨x, m, pl⟩ N).m) : P (finA I x N).m := fix_lay P hP (N + 1) (hP _ _ _)
/-- A label at the very beginning is told as it. -/
theorem lay_first (wd : Nat → Bool) (x : Int) (m : LMap) (pl : Nat → Int) (h0 : isE (I.lb 0) = false) (hne : ∀ k, 0 < k → k < N → isE (I.lb k) = false → I.lb k ≠ I.lb 0) : ∀ k, 0 < k → k ≤ N → (layIt I wd ⟨x, m, pl⟩ k).m.val (.string (I.lb 0)) = x
  | 1, _, _ => by simp only [layIt, layStep, h0, cond_false, LMap.set, keq_self, cond_true]
  | k + 2, _, hk => by
    have ih := lay_first wd x m pl h0 hne (k + 1) (by omega) (by omega)
    rw [layIt]
    simp only [layStep]
    cases hl : isE (I.lb (k + 1)) with
    | true => exact ih
    | false =>
      simp only [cond_false, LMap.set]
      rw [keq_ne (fun e => hne (k + 1) (by omega) (by omega) hl e.symm)]
      exact ih
end
/-! ### words that are right -/
theorem bits_and1 (t : Int) : bits2 .and .i64 (4 * t) 1 = 0 := by
  unfold bits2
  have : (BitVec.ofInt IntKind.i64.bits (4 * t) &&& BitVec.ofInt IntKind.i64.bits 1).toNat = 0 := by
    rw [BitVec.toNat_and]
    have h1 : (BitVec.ofInt IntKind.i64.bits 1).toNat = 1 := by decide
    rw [h1, Nat.and_one_is_mod]
    have h2 : ((BitVec.ofInt IntKind.i64.bits (4 * t)).toNat : Int) = (4 * t) % 18446744073709551616 := by
      rw [BitVec.toNat_ofInt]
      show ((((4 * t) % ((2 ^ 64 : Nat) : Int)).toNat : Nat) : Int) = _
      rw [Int.toNat_of_nonneg (Int.emod_nonneg _ (by decide))]
      rfl
    omega
  simp only [this]
  rfl
end Go.X
