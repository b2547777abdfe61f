import Derived.Test.YtnekegldodbgjaaC33
set_option linter.all false
set_option linter.unusedVariables false
set_option linter.unusedSimpArgs false
namespace Go.X
open Go Go.Proofs
set_option linter.unusedVariables false
set_option linter.unusedSimpArgs false
section
variable (N C : Nat) (at_ : Int) (I : Its)
/-! check -/
def goodK (I : Its) (k : Nat) : Bool := goodF (I.lb k) (I.op k) (I.rd k) (I.rs1 k) (I.rs2 k) (I.imm k) (I.to k) (I.part k)
/-- Are the first ones good? -/
def goodTo (I : Its) : Nat → Bool
  | 0 => true
  | k + 1 => goodTo I k && goodK I k
structure CSt where
  m : LMap
  dup : Bool
def chkStep (I : Its) (k : Nat) (s : CSt) : CSt := bif s.dup then s else bif s.m.has (.string (I.lb k)) then ⟨s.m, true⟩ else ⟨bif isE (I.lb k) then s.m else s.m.set (I.lb k) 0, false⟩
def chkIt (I : Its) (m : LMap) : Nat → CSt
  | 0 => ⟨m, false⟩
  | k + 1 => chkStep I k (chkIt I m k)
/-- Are the labels that are asked for there? -/
def foundTo (I : Its) (m : LMap) : Nat → Bool
  | 0 => true
  | k + 1 => foundTo I m k && (isE (I.to k) || m.has (.string (I.to k)))
theorem goodTo_stop {I : Its} {k N : Nat} (h : goodTo I k = false) (hk : k ≤ N) : goodTo I N = false := by
  induction N with
  | zero => have : k = 0 := by omega
            subst this; exact h
  | succ n ih =>
    by_cases e : k = n + 1
    · subst e; exact h
    · simp [goodTo, ih (by omega)]
theorem foundTo_stop {I : Its} {m : LMap} {k N : Nat} (h : foundTo I m k = false) (hk : k ≤ N) : foundTo I m N = false := by
  induction N with
  | zero => have : k = 0 := by omega
            subst this; exact h
  | succ n ih =>
    by_cases e : k = n + 1
    · subst e; exact h
    · simp [foundTo, ih (by omega)]
theorem chk_stop {I : Its} {m : LMap} {k N : Nat} (h : (chkIt I m k).dup = true) (hk : k ≤ N) : chkIt I m N = chkIt I m k := by
  induction N with
  | zero => have : k = 0 := by omega
            subst this; rfl
  | succ n ih =>
    by_cases e : k = n + 1
    · subst e; rfl
    · have := ih (by omega)
      simp only [chkIt, this, chkStep, h, cond_true]
def badAt (at_ : Int) : Bool := at_.tmod 4 != 0 || decide (at_ < 0) || decide (at_ > 4194304)
def chkLate (I : Its) (at_ : Int) (N : Nat) : Bool := !(badAt at_) && (!(decide ((N : Int) > 65536)) && goodTo I N)
def checkE (I : Its) (at_ : Int) (N : Nat) (m : LMap) : Int :=
  bif badAt at_ then 1 else bif decide ((N : Int) > 65536) then 3 else bif !goodTo I N then 2 else bif (chkIt I m N).dup then 18 else bif !foundTo I (chkIt I m N).m N then 17 else 0
def checkM (I : Its) (at_ : Int) (N : Nat) (m : LMap) : LMap := bif chkLate I at_ N then (chkIt I m N).m else m
variable (wd : Nat → Bool) (pl : Nat → Int)
def V39 (k : Nat) : List Value := [.int .i64 k, .slice (some ⟨2, 0, none⟩) N C, .int .i64 N, pp]
def S39 (ks : List Nat) (k : Nat) (m : LMap) : St := ⟨mkT ks (V39 N C k), mkH (laidH N C at_ I wd m pl), 104⟩
def M39 (ks : List Nat) (k : Nat) (m : LMap) : St := ⟨mkT ks (V39 N C k), mkH (laidM N C at_ I wd m pl), 104⟩
/-- check: what is wrong of items. -/
theorem b39 (m : LMap) (hN : N < 9223372036854775808) : Body Try.prog 39 [pp] (mkH (laidH N C at_ I wd m pl)) (.int .i64 (checkE I at_ N m)) [(101, some (checkM I at_ N m).blk)] 104 0 := by
  refine body_of mixed fx39 (by simp) fun ρ w hd => ?_
  have ea := p39_a N C at_ I wd m pl
  by_cases h1 : badAt at_ = true
  · replace ea := ea.trans (show (bif badAt at_ then _ else _) = _ by rw [h1])
    refine xwp_toEnd cl_fin FOKD 1000 ea ⟨mkT [2] [.int .i64 1], mkH (laidH N C at_ I wd m pl), 104⟩ ⟨[.int .i64 1], laidH N C at_ I wd m pl, 104, rfl, rfl, ⟨rfl, trivial⟩, rfl, bis_its, bis_bools, bis_lmap, bis_ints, trivial⟩ ?_
    rw [show checkE I at_ N m = 1 by simp [checkE, h1], show checkM I at_ N m = m by simp [checkM, chkLate, h1]]
    exact fin_of rfl ⟨rfl, rfl, rfl, rfl, trivial, rfl, trivial⟩ rfl rfl
  rw [Bool.not_eq_true] at h1
  replace ea := ea.trans (show (bif badAt at_ then _ else _) = _ by rw [h1])
  by_cases h2 : decide ((N : Int) > 65536) = true
  · rw [h2] at ea
    refine xwp_toEnd cl_fin FOKD 1000 ea ⟨mkT [2] [.int .i64 3], mkH (laidH N C at_ I wd m pl), 104⟩ ⟨[.int .i64 3], laidH N C at_ I wd m pl, 104, rfl, rfl, ⟨rfl, trivial⟩, rfl, bis_its, bis_bools, bis_lmap, bis_ints, trivial⟩ ?_
    rw [show checkE I at_ N m = 3 by simp only [checkE, h1, h2, cond_true, cond_false], show checkM I at_ N m = m by simp [checkM, chkLate, h2]]
    exact fin_of rfl ⟨rfl, rfl, rfl, rfl, trivial, rfl, trivial⟩ rfl rfl
  rw [Bool.not_eq_true] at h2
  rw [h2] at ea
  refine xwp_toLoop FOKD 1000 ea (S39 N C at_ I wd pl [44, 42, 43, 0] 0 m) ⟨V39 N C 0, laidH N C at_ I wd m pl, 104, rfl, rfl, ⟨rfl, rfl, rfl, rfl, trivial⟩, rfl, bis_its, bis_bools, bis_lmap, bis_ints, trivial⟩ ?_
  -- all good?
  refine xwp_loopR (fun k => S39 N C at_ I wd pl [44, 42, 43, 0] k m) (fun k => k ≤ N ∧ goodTo I k = true) (fun k => N - k) 0 ⟨Nat.zero_le _, rfl⟩ fun k hk => ?_
  have eb := p39_b k N C at_ I wd m pl
  by_cases hlt : k < N
  · simp only [hlt, decide_true, cond_true, wrap_succ hlt hN] at eb
    cases hg : goodK I k with
    | false =>
      replace eb := eb.trans (show (bif !goodK I k then _ else _) = _ by rw [hg])
      have hgN : goodTo I N = false := goodTo_stop (k := k + 1) (by simp [goodTo, hg]) hlt
      refine xwp_toEnd (cl_round (cl_ctx cl_fin _)) FOKD 1000 eb ⟨mkT [2] [.int .i64 2], mkH (laidH N C at_ I wd m pl), 104⟩ ⟨[.int .i64 2], laidH N C at_ I wd m pl, 104, rfl, rfl, ⟨rfl, trivial⟩, rfl, bis_its, bis_bools, bis_lmap, bis_ints, trivial⟩ ?_
      show finP _ _ _ _ _ _ _ _
      rw [show checkE I at_ N m = 2 by simp only [checkE, h1, h2, hgN, Bool.not_false, cond_true, cond_false], show checkM I at_ N m = m by simp [checkM, chkLate, hgN]]
      exact fin_of rfl ⟨rfl, rfl, rfl, rfl, trivial, rfl, trivial⟩ rfl rfl
    | true =>
      replace eb := eb.trans (show (bif !goodK I k then _ else _) = _ by rw [hg])
      exact xwp_toEnd (cl_round (cl_ctx cl_fin _)) FOKD 1000 eb (S39 N C at_ I wd pl [44, 42, 43, 0] (k + 1) m) ⟨V39 N C (k + 1), laidH N C at_ I wd m pl, 104, rfl, rfl, ⟨rfl, rfl, rfl, rfl, trivial⟩, rfl, bis_its, bis_bools, bis_lmap, bis_ints, trivial⟩
        ⟨k + 1, ⟨hlt, by simp [goodTo, hk.2, hg]⟩, Nat.sub_succ_lt_self N k hlt, Wk.refl _ _⟩
  have hkN : k = N := by omega
  subst hkN
  simp only [hlt, decide_false, cond_false] at eb
  have hgN := hk.2
  refine xwp_toEnd (cl_round (cl_ctx cl_fin _)) FOKD 1000 eb (S39 k C at_ I wd pl [44, 42, 43, 0] k m) ⟨V39 k C k, laidH k C at_ I wd m pl, 104, rfl, rfl, ⟨rfl, rfl, rfl, rfl, trivial⟩, rfl, bis_its, bis_bools, bis_lmap, bis_ints, trivial⟩ ?_
  show XWP _ x39_77 _ _
  have hlate : chkLate I at_ k = true := by simp [chkLate, h1, h2, hgN]
  have hM : checkM I at_ k m = (chkIt I m k).m := by simp [checkM, hlate]
  -- labels told twice?
  refine xwp_toLoop FOKD 1000 (p39_c k k C at_ I wd m pl) (M39 k C at_ I wd pl [57, 55, 56, 0] 0 m) ⟨V39 k C 0, laidM k C at_ I wd m pl, 104, rfl, rfl, ⟨rfl, rfl, rfl, rfl, trivial⟩, bis_lmap, rfl, bis_its, bis_bools, bis_ints, trivial⟩ ?_
  refine xwp_loopR (fun j => M39 k C at_ I wd pl [57, 55, 56, 0] j (chkIt I m j).m) (fun j => j ≤ k ∧ (chkIt I m j).dup = false) (fun j => k - j) 0 ⟨Nat.zero_le _, rfl⟩ fun j hj => ?_
  have ed := p39_d j k C at_ I wd (chkIt I m j).m pl
  by_cases hlt2 : j < k
  · simp only [hlt2, decide_true, cond_true, wrap_succ hlt2 hN, isE_fold] at ed
    cases hh : (chkIt I m j).m.has (.string (I.lb j)) with
    | true =>
      replace ed := ed.trans (show (bif (chkIt I m j).m.has (.string (I.lb j)) then _ else _) = _ by rw [hh])
      have hs : chkIt I m (j + 1) = ⟨(chkIt I m j).m, true⟩ := by simp only [chkIt, chkStep, hj.2, hh, cond_true, cond_false]
      have hN2 : chkIt I m k = ⟨(chkIt I m j).m, true⟩ := (chk_stop (k := j + 1) (by rw [hs]) hlt2).trans hs
      refine xwp_toEnd (cl_round (cl_ctx cl_fin _)) FOKD 1000 ed ⟨mkT [2] [.int .i64 18], mkH (laidM k C at_ I wd (chkIt I m j).m pl), 104⟩ ⟨[.int .i64 18], laidM k C at_ I wd (chkIt I m j).m pl, 104, rfl, rfl, ⟨rfl, trivial⟩, bis_lmap, rfl, bis_its, bis_bools, bis_ints, trivial⟩ ?_
      show finP _ _ _ _ _ _ _ _
      rw [hM, show checkE I at_ k m = 18 by simp only [checkE, h1, h2, hgN, hN2, Bool.not_true, cond_true, cond_false], hN2]
      exact fin_of rfl ⟨rfl, rfl, rfl, rfl, trivial, rfl, trivial⟩ rfl rfl
    | false =>
      replace ed := ed.trans (show (bif (chkIt I m j).m.has (.string (I.lb j)) then _ else _) = _ by rw [hh])
      have hs : chkIt I m (j + 1) = ⟨bif isE (I.lb j) then (chkIt I m j).m else (chkIt I m j).m.set (I.lb j) 0, false⟩ := by simp only [chkIt, chkStep, hj.2, hh, cond_false]
      cases hl : isE (I.lb j) with
      | true =>
        rw [hl] at ed hs
        refine xwp_toEnd (cl_round (cl_ctx cl_fin _)) FOKD 1000 ed (M39 k C at_ I wd pl [57, 55, 56, 0] (j + 1) (chkIt I m j).m) ⟨V39 k C (j + 1), laidM k C at_ I wd (chkIt I m j).m pl, 104, rfl, rfl, ⟨rfl, rfl, rfl, rfl, trivial⟩, bis_lmap, rfl, bis_its, bis_bools, bis_ints, trivial⟩
          ⟨j + 1, ⟨hlt2, by rw [hs]⟩, Nat.sub_succ_lt_self k j hlt2, by simp only [hs]; exact Wk.refl _ _⟩
      | false =>
        rw [hl] at ed hs
        refine xwp_toEnd (cl_round (cl_ctx cl_fin _)) FOKD 1000 ed (M39 k C at_ I wd pl [57, 55, 56, 0] (j + 1) ((chkIt I m j).m.set (I.lb j) 0)) ⟨V39 k C (j + 1), laidM k C at_ I wd ((chkIt I m j).m.set (I.lb j) 0) pl, 104, rfl, rfl, ⟨rfl, rfl, rfl, rfl, trivial⟩, ⟨rfl, rfl, ?_, fun d q _ _ => ⟨rfl, ?_⟩⟩, rfl, bis_its, bis_bools, bis_ints, trivial⟩
          ⟨j + 1, ⟨hlt2, by rw [hs]⟩, Nat.sub_succ_lt_self k j hlt2, by simp only [hs]; exact Wk.refl _ _⟩
        · show (bif (chkIt I m j).m.has (.string (I.lb j)) then _ else _) = _
          rw [hh]; rfl
        · show rn _ (.int .i64 (bif keq q (.string (I.lb j)) then 0 else (chkIt I m j).m.val q)) = bif keq q (.string (I.lb j)) then .int .i64 0 else .int .i64 ((chkIt I m j).m.val q)
          cases keq q (.string (I.lb j)) <;> rfl
  have hjk : j = k := by omega
  subst hjk
  simp only [hlt2, decide_false, cond_false] at ed
  refine xwp_toEnd (cl_round (cl_ctx cl_fin _)) FOKD 1000 ed (M39 j C at_ I wd pl [57, 55, 56, 0] j (chkIt I m j).m) ⟨V39 j C j, laidM j C at_ I wd (chkIt I m j).m pl, 104, rfl, rfl, ⟨rfl, rfl, rfl, rfl, trivial⟩, bis_lmap, rfl, bis_its, bis_bools, bis_ints, trivial⟩ ?_
  show XWP _ x39_76 _ _
  -- all there?
  refine xwp_toLoop FOKD 1000 (p39_e j j C at_ I wd (chkIt I m j).m pl) (M39 j C at_ I wd pl [87, 85, 86, 0] 0 (chkIt I m j).m) ⟨V39 j C 0, laidM j C at_ I wd (chkIt I m j).m pl, 104, rfl, rfl, ⟨rfl, rfl, rfl, rfl, trivial⟩, bis_lmap, rfl, bis_its, bis_bools, bis_ints, trivial⟩ ?_
  refine xwp_loopR (fun i => M39 j C at_ I wd pl [87, 85, 86, 0] i (chkIt I m j).m) (fun i => i ≤ j ∧ foundTo I (chkIt I m j).m i = true) (fun i => j - i) 0 ⟨Nat.zero_le _, rfl⟩ fun i hi => ?_
  have ef := p39_f i j C at_ I wd (chkIt I m j).m pl
  by_cases hlt3 : i < j
  · simp only [hlt3, decide_true, cond_true, wrap_succ hlt3 hN, isE_fold] at ef
    replace ef := ef.trans (show (bif (!isE (I.to i) && !(chkIt I m j).m.has (.string (I.to i))) then _ else _) = (bif !(isE (I.to i) || (chkIt I m j).m.has (.string (I.to i))) then _ else _) by rw [Bool.not_or])
    cases hh : (isE (I.to i) || (chkIt I m j).m.has (.string (I.to i))) with
    | false =>
      rw [hh] at ef
      have hf : foundTo I (chkIt I m j).m j = false := foundTo_stop (k := i + 1) (by simp only [foundTo, hh, Bool.and_false]) hlt3
      refine xwp_toEnd (cl_round (cl_ctx cl_fin _)) FOKD 1000 ef ⟨mkT [2] [.int .i64 17], mkH (laidM j C at_ I wd (chkIt I m j).m pl), 104⟩ ⟨[.int .i64 17], laidM j C at_ I wd (chkIt I m j).m pl, 104, rfl, rfl, ⟨rfl, trivial⟩, bis_lmap, rfl, bis_its, bis_bools, bis_ints, trivial⟩ ?_
      show finP _ _ _ _ _ _ _ _
      rw [hM, show checkE I at_ j m = 17 by simp only [checkE, h1, h2, hgN, hj.2, hf, Bool.not_true, Bool.not_false, cond_true, cond_false]]
      exact fin_of rfl ⟨rfl, rfl, rfl, rfl, trivial, rfl, trivial⟩ rfl rfl
    | true =>
      rw [hh] at ef
      exact xwp_toEnd (cl_round (cl_ctx cl_fin _)) FOKD 1000 ef (M39 j C at_ I wd pl [87, 85, 86, 0] (i + 1) (chkIt I m j).m) ⟨V39 j C (i + 1), laidM j C at_ I wd (chkIt I m j).m pl, 104, rfl, rfl, ⟨rfl, rfl, rfl, rfl, trivial⟩, bis_lmap, rfl, bis_its, bis_bools, bis_ints, trivial⟩
        ⟨i + 1, ⟨hlt3, by simp only [foundTo, hi.2, hh, Bool.and_self]⟩, Nat.sub_succ_lt_self j i hlt3, Wk.refl _ _⟩
  have hij : i = j := by omega
  subst hij
  simp only [hlt3, decide_false, cond_false] at ef
  refine xwp_toEnd (cl_round (cl_ctx cl_fin _)) FOKD 1000 ef (M39 i C at_ I wd pl [87, 85, 86, 0] i (chkIt I m i).m) ⟨V39 i C i, laidM i C at_ I wd (chkIt I m i).m pl, 104, rfl, rfl, ⟨rfl, rfl, rfl, rfl, trivial⟩, bis_lmap, rfl, bis_its, bis_bools, bis_ints, trivial⟩ ?_
  show XWP _ x39_75 _ _
  refine xwp_toEnd cl_fin FOKD 1000 (p39_g i i C at_ I wd (chkIt I m i).m pl) ⟨mkT [2] [.int .i64 0], mkH (laidM i C at_ I wd (chkIt I m i).m pl), 104⟩ ⟨[.int .i64 0], laidM i C at_ I wd (chkIt I m i).m pl, 104, rfl, rfl, ⟨rfl, trivial⟩, bis_lmap, rfl, bis_its, bis_bools, bis_ints, trivial⟩ ?_
  rw [hM, show checkE I at_ i m = 0 by simp only [checkE, h1, h2, hgN, hj.2, hi.2, Bool.not_true, cond_false]]
  exact fin_of rfl ⟨rfl, rfl, rfl, rfl, trivial, rfl, trivial⟩ rfl rfl
end
end Go.X
namespace Go.X
open Go Go.Proofs
set_option linter.unusedVariables false
set_option linter.unusedSimpArgs false
/-- What is laid, read off a heap. -/
structure LD where
  N : Nat
  C : Nat
  at_ : Int
  I : Its
  wd : Nat → Bool
  m : LMap
  pl : Nat → Int
def itsOf (f : Nat → List Value) : Its := ⟨fun j => asS ((f j).getD 0 undefd), fun j => asS ((f j).getD 6 undefd), fun j => asI ((f j).getD 1 undefd), fun j => asI ((f j).getD 2 undefd), fun j => asI ((f j).getD 3 undefd),
  fun j => asI ((f j).getD 4 undefd), fun j => asI ((f j).getD 5 undefd), fun j => asI ((f j).getD 7 undefd)⟩
def ldOf (b1 b2 b3 b4 b5 : Blk) : Option LD :=
  match b1, b2, b3, b4, b5 with
  | .var [.slice _ N C, _, .int _ a, _, _], .rows _ _ f _ _, .rows _ _ g _ _, .map _ _ n has val, .rows _ _ p _ _ =>
    some ⟨N, C, a, itsOf f, fun j => asB ((g j).getD 0 undefd), ⟨n, has, fun q => asI (val q)⟩, fun j => asI ((p j).getD 0 undefd)⟩
  | _, _, _, _, _ => none
def LD.H (D : LD) : List (Nat × Blk) := laidH D.N D.C D.at_ D.I D.wd D.m D.pl
/-- The blocks are so. -/
def LD.Is (D : LD) (b1 b2 b3 b4 b5 : Blk) : Prop :=
  b1 = laidB D.N D.C D.at_ ∧ b2 = .rows D.N 8 D.I.row false true ∧ b3 = .rows D.N 1 (bools D.wd) false false ∧ b4 = D.m.blk ∧ b5 = .rows D.N 1 (ints D.pl) false false ∧ D.N < 9223372036854775808
/-- The heap is so. -/
def LD.At (D : LD) (h : Hp) : Prop :=
  hget h 103 = some (laidB D.N D.C D.at_) ∧ hget h 2 = some (.rows D.N 8 D.I.row false true) ∧ hget h 100 = some (.rows D.N 1 (bools D.wd) false false) ∧ hget h 101 = some D.m.blk ∧ hget h 102 = some (.rows D.N 1 (ints D.pl) false false) ∧ D.N < 9223372036854775808
/-- What is laid, read off a heap; and what is to hold then. -/
noncomputable def ldAt (h : Hp) : Option (LD × Bool) :=
  match hget h 103, hget h 2, hget h 100, hget h 101, hget h 102 with
  | some b1, some b2, some b3, some b4, some b5 => match ldOf b1 b2 b3 b4 b5 with
    | some D => some (D, decP (D.Is b1 b2 b3 b4 b5))
    | none => none
  | _, _, _, _, _ => none
theorem ldAt_some {h : Hp} {D : LD} (hx : ldAt h = some (D, true)) : D.At h := by
  unfold ldAt at hx
  split at hx
  · rename_i b1 b2 b3 b4 b5 h1 h2 h3 h4 h5
    split at hx
    · simp only [Option.some.injEq, Prod.mk.injEq] at hx
      obtain ⟨rfl, hp⟩ := hx
      obtain ⟨e1, e2, e3, e4, e5, hN⟩ := of_decP hp
      exact ⟨by rw [h1, e1], by rw [h2, e2], by rw [h3, e3], by rw [h4, e4], by rw [h5, e5], hN⟩
    · cases hx
  · cases hx
theorem LD.At.pre {D : LD} {h : Hp} (H : D.At h) : ∀ id ∈ fstL (mkH D.H), hget h id = hget (mkH D.H) id := by
  obtain ⟨h1, h2, h3, h4, h5, _⟩ := H
  intro id hid
  simp only [LD.H, laidH, mkH, fstL, List.mem_cons, List.not_mem_nil, or_false] at hid
  rcases hid with rfl | rfl | rfl | rfl | rfl
  · exact h1
  · exact h2
  · exact h3
  · exact h4
  · exact h5
abbrev idπ : List (Nat × Nat) := [(103, 103), (2, 2), (100, 100), (101, 101), (102, 102)]
section
variable (N C : Nat) (at_ : Int) (I : Its) (wd : Nat → Bool) (m : LMap) (pl : Nat → Int)
theorem hs_laid : HsOK Try.prog (asc idπ) (hget (mkH (laidH N C at_ I wd m pl))) [] (mkH (laidH N C at_ I wd m pl)) := ⟨rfl, bis_its, bis_bools, bis_lmap, bis_ints, trivial⟩
theorem c39 (hN : N < 9223372036854775808) (n : Nat) : ADet Try.prog 39 [pp] (mkH (laidH N C at_ I wd m pl)) (.int .i64 (checkE I at_ N m)) [(101, some (checkM I at_ N m).blk)] n 0 :=
  adet_of_body (b39 N C at_ I wd pl m hN) idπ [] rfl rfl (hs_laid N C at_ I wd m pl) rfl rfl ⟨bis_lmap, rfl, bis_its, bis_bools, trivial, bis_ints, trivial⟩ rfl
theorem c40 (hN : N < 9223372036854775808) (n : Nat) : ADet Try.prog 40 [pp] (mkH (laidH N C at_ I wd m pl)) (.tuple ⟨[]⟩) [(101, some (layIt I wd ⟨at_, m, pl⟩ N).m.blk), (102, some (.rows N 1 (ints (layIt I wd ⟨at_, m, pl⟩ N).pl) false false))] n 0 :=
  adet_of_body (b40 N C at_ I wd m pl hN) idπ [] rfl rfl (hs_laid N C at_ I wd m pl) rfl rfl ⟨bis_lmap, bis_ints, rfl, bis_its, bis_bools, trivial, trivial, trivial⟩ rfl
theorem c41 (hN : N < 9223372036854775808) (n : Nat) : ADet Try.prog 41 [pp] (mkH (laidH N C at_ I wd m pl)) (.bool (widIt I m pl ⟨false, wd⟩ N).more) [(100, some (.rows N 1 (bools (widIt I m pl ⟨false, wd⟩ N).wd) false false))] n 0 :=
  adet_of_body (b41 N C at_ I m pl wd hN) idπ [] rfl rfl (hs_laid N C at_ I wd m pl) rfl rfl ⟨bis_bools, rfl, bis_its, trivial, bis_lmap, bis_ints, trivial⟩ rfl
theorem ne_of_ble {n k : Nat} (h : 104 ≤ n) (hk : k < 104) : Nat.beq k n = false ∧ Nat.beq n k = false := by
  constructor
  · cases hb : Nat.beq k n with
    | false => rfl
    | true => have := Nat.eq_of_beq_eq_true hb; omega
  · cases hb : Nat.beq n k with
    | false => rfl
    | true => have := Nat.eq_of_beq_eq_true hb; omega
theorem c42 (k : Nat) (hk : k < N) (n : Nat) (hn : 104 ≤ n) : ADet Try.prog 42 [pp, .int .i64 k] (mkH (laidH N C at_ I wd m pl)) (.slice (some ⟨n, 0, none⟩) (wordsN I wd k) (wordsN I wd k)) [(n, some (.rows (wordsN I wd k) 5 (wordsR I wd m pl k) false false))] n 1 := by
  obtain ⟨a1, b1⟩ := ne_of_ble (k := 103) hn (by omega)
  obtain ⟨a2, b2⟩ := ne_of_ble (k := 2) hn (by omega)
  obtain ⟨a3, b3⟩ := ne_of_ble (k := 100) hn (by omega)
  obtain ⟨a4, b4⟩ := ne_of_ble (k := 101) hn (by omega)
  obtain ⟨a5, b5⟩ := ne_of_ble (k := 102) hn (by omega)
  have hnn : Nat.beq n n = true := by simp
  refine adet_of_body (b42 N C at_ I m pl wd k hk) idπ [(n, 104)] ?_ rfl (hs_laid N C at_ I wd m pl) rfl ?_ ?_ ?_
  · refine (show ((true && (Nat.ble n n && Nat.blt n (n + 1) && true)) && true && true) = true from ?_)
    simp [lt_blt]
  · show renP _ _ _ _ _ = _
    simp only [renP, List.cons_append, asc, hnn, cond_true]
  · have s : ∀ x, (Nat.beq n x = false) → asc ((n, 104) :: flip idπ) x = asc (flip idπ) x := fun x hx => by simp only [asc, hx, cond_false]
    have s0 : asc ((n, 104) :: flip idπ) n = some 104 := by simp only [asc, hnn, cond_true]
    simp only [List.cons_append, List.nil_append, laidH, mkH, HsOK, natMem, a1, a2, a3, a4, a5, b1, b2, b3, b4, b5, Bool.or_false, Bool.false_or, s _ b1, s _ b2, s _ b3, s _ b4, s _ b5, s0]
    have hb : BIs Try.prog (asc ((n, 104) :: flip idπ)) (laidB N C at_) (laidB N C at_) := by
      show renL (ren (asc ((n, 104) :: flip idπ)) 4) [.slice (some ⟨2, 0, none⟩) N C, .slice (some ⟨100, 0, none⟩) N N, .int .i64 at_, .map (some 101), .slice (some ⟨102, 0, none⟩) N N] = _
      simp only [renL, ren, renP, s _ b2, s _ b3, s _ b4, s _ b5]
      rfl
    exact ⟨bis_rw fun j hj => by unfold wordsR; cases Nat.beq j 0 <;> rfl, hb, bis_its, bis_bools, bis_lmap, bis_ints, trivial⟩
  · have s : ∀ x, (Nat.beq n x = false) → asc ((n, 104) :: flip idπ) x = asc (flip idπ) x := fun x hx => by simp only [asc, hx, cond_false]
    have s0 : asc ((n, 104) :: flip idπ) n = some 104 := by simp only [asc, hnn, cond_true]
    simp only [List.cons_append, List.nil_append, laidH, mkH, namesOf, natMem, a1, a2, a3, a4, a5, b1, b2, b3, b4, b5, Bool.or_false, Bool.false_or, s _ b1, s _ b2, s _ b3, s _ b4, s _ b5, s0]
    rfl
end
def laidA (N C : Nat) (at_ : Int) (I : Its) (wd : Nat → Bool) (m : LMap) (pl : Nat → Int) : List (Nat × Blk) :=
  [(100, .rows N 1 (bools wd) false false), (101, m.blk), (102, .rows N 1 (ints pl) false false), (103, laidB N C at_), (2, .rows N 8 I.row false true)]
def insR (R : Nat → Ins) : Nat → List Value := fun j => (R j).row
def u32s (l : List Int) : Nat → List Value := fun j => [.int .u32 (l.getD j 0)]
def isPP : List Value → Option (List Value)
  | .pointer (some ⟨103, 0, some 0⟩) :: vs => some vs
  | _ => none
noncomputable def con39 : Con Try.prog where
  f := 39
  run := fun vs h n => match isPP vs, ldAt h with
    | some [], some (D, hA) => some (mkH D.H, .int .i64 (checkE D.I D.at_ D.N D.m), [(101, some (checkM D.I D.at_ D.N D.m).blk)], 0, hA)
    | _, _ => none
  ok := fun vs h n pre v upd news hx => by
    split at hx
    · rename_i D hA hp hd
      simp only [Option.some.injEq, Prod.mk.injEq] at hx
      obtain ⟨rfl, rfl, rfl, rfl, rfl⟩ := hx
      have hA := ldAt_some hd
      refine ⟨hA.pre, ?_⟩
      have : vs = [pp] := by
        unfold isPP at hp; split at hp
        · cases hp; rfl
        · cases hp
      subst this
      exact c39 _ _ _ _ _ _ _ hA.2.2.2.2.2 n
    · cases hx
noncomputable def con40 : Con Try.prog where
  f := 40
  run := fun vs h n => match isPP vs, ldAt h with
    | some [], some (D, hA) => some (mkH D.H, .tuple ⟨[]⟩, [(101, some (layIt D.I D.wd ⟨D.at_, D.m, D.pl⟩ D.N).m.blk), (102, some (.rows D.N 1 (ints (layIt D.I D.wd ⟨D.at_, D.m, D.pl⟩ D.N).pl) false false))], 0, hA)
    | _, _ => none
  ok := fun vs h n pre v upd news hx => by
    split at hx
    · rename_i D hA hp hd
      simp only [Option.some.injEq, Prod.mk.injEq] at hx
      obtain ⟨rfl, rfl, rfl, rfl, rfl⟩ := hx
      have hA := ldAt_some hd
      refine ⟨hA.pre, ?_⟩
      have : vs = [pp] := by
        unfold isPP at hp; split at hp
        · cases hp; rfl
        · cases hp
      subst this
      exact c40 _ _ _ _ _ _ _ hA.2.2.2.2.2 n
    · cases hx
noncomputable def con41 : Con Try.prog where
  f := 41
  run := fun vs h n => match isPP vs, ldAt h with
    | some [], some (D, hA) => some (mkH D.H, .bool (widIt D.I D.m D.pl ⟨false, D.wd⟩ D.N).more, [(100, some (.rows D.N 1 (bools (widIt D.I D.m D.pl ⟨false, D.wd⟩ D.N).wd) false false))], 0, hA)
    | _, _ => none
  ok := fun vs h n pre v upd news hx => by
    split at hx
    · rename_i D hA hp hd
      simp only [Option.some.injEq, Prod.mk.injEq] at hx
      obtain ⟨rfl, rfl, rfl, rfl, rfl⟩ := hx
      have hA := ldAt_some hd
      refine ⟨hA.pre, ?_⟩
      have : vs = [pp] := by
        unfold isPP at hp; split at hp
        · cases hp; rfl
        · cases hp
      subst this
      exact c41 _ _ _ _ _ _ _ hA.2.2.2.2.2 n
    · cases hx
noncomputable def con42 : Con Try.prog where
  f := 42
  run := fun vs h n => match isPP vs, ldAt h with
    | some [.int .i64 k], some (D, hA) => some (mkH D.H, .slice (some ⟨n, 0, none⟩) (wordsN D.I D.wd k.toNat) (wordsN D.I D.wd k.toNat), [(n, some (.rows (wordsN D.I D.wd k.toNat) 5 (wordsR D.I D.wd D.m D.pl k.toNat) false false))], 1,
      hA && (decide (0 ≤ k) && (decide (k < D.N) && Nat.ble 104 n)))
    | _, _ => none
  ok := fun vs h n pre v upd news hx => by
    split at hx
    · rename_i k D hA hp hd
      simp only [Option.some.injEq, Prod.mk.injEq, Bool.and_eq_true, decide_eq_true_eq] at hx
      obtain ⟨rfl, rfl, rfl, rfl, rfl, h0, hk, hn⟩ := hx
      have hA := ldAt_some hd
      have hn := ble_le hn
      refine ⟨hA.pre, ?_⟩
      have : vs = [pp, .int .i64 (k.toNat : Int)] := by
        rw [Int.toNat_of_nonneg h0]
        unfold isPP at hp; split at hp
        · cases hp; rfl
        · cases hp
      subst this
      exact c42 _ _ _ _ _ _ _ k.toNat (by omega) n hn
    · cases hx
noncomputable abbrev scE : Short := scOf [con39, con40, con41, con42, con43, con18, con44, con52, con54, con55, con56, con71, con53, con51]
theorem FOKE : FnsOK Try.prog (lookF FL) scE := fok FOK _
end Go.X
