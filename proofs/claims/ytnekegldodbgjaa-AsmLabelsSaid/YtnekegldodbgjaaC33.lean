import Derived.Test.YtnekegldodbgjaaC32
set_option linter.all false
set_option linter.unusedVariables false
set_option linter.unusedSimpArgs false
namespace Go.X
open Go Go.Proofs
set_option linter.unusedVariables false
set_option linter.unusedSimpArgs false
theorem isE_fold (s : ByteArray) : (s.toList == (ByteArray.mk #[]).toList) = isE s := rfl
theorem bis_rw {P : Program} {σ : Nm} {n s : Nat} {f : Nat → List Value} {o r : Bool} (h : ∀ j, j < n → rnL σ (f j) = f j) : BIs P σ (.rows n s f o r) (.rows n s f o r) :=
  ⟨rfl, rfl, h, by cases o <;> simp, by cases r <;> simp⟩
theorem bis_ints {P : Program} {σ : Nm} {n : Nat} {f : Nat → Int} {o r : Bool} : BIs P σ (.rows n 1 (ints f) o r) (.rows n 1 (ints f) o r) := bis_rw fun _ _ => rfl
theorem bis_bools {P : Program} {σ : Nm} {n : Nat} {f : Nat → Bool} {o r : Bool} : BIs P σ (.rows n 1 (bools f) o r) (.rows n 1 (bools f) o r) := bis_rw fun _ _ => rfl
theorem bis_its {P : Program} {σ : Nm} {n : Nat} {I : Its} {o r : Bool} : BIs P σ (.rows n 8 I.row o r) (.rows n 8 I.row o r) := bis_rw fun _ _ => rfl
theorem bis_lmap {P : Program} {σ : Nm} {m : LMap} : BIs P σ m.blk m.blk := ⟨rfl, rfl, rfl, fun _ _ _ _ => ⟨rfl, rfl⟩⟩
section
variable (N C : Nat) (at_ : Int) (I : Its)
/-! lay -/
structure LSt where
  cur : Int
  m : LMap
  pl : Nat → Int
/-- What one item does to what is laid. -/
def layStep (I : Its) (wd : Nat → Bool) (k : Nat) (s : LSt) : LSt :=
  bif isE (I.lb k) then ⟨bif wd k then IntKind.i64.wrap (s.cur + 8) else IntKind.i64.wrap (s.cur + 4), s.m, upd s.pl k s.cur⟩ else ⟨s.cur, s.m.set (I.lb k) s.cur, upd s.pl k s.cur⟩
def layIt (I : Its) (wd : Nat → Bool) (s : LSt) : Nat → LSt
  | 0 => s
  | k + 1 => layStep I wd k (layIt I wd s k)
def V40 (k : Nat) (s : LSt) : List Value := [.int .i64 s.cur, .int .i64 k, .slice (some ⟨2, 0, none⟩) N C, .int .i64 N, pp]
def S40 (wd : Nat → Bool) (k : Nat) (s : LSt) : St := ⟨mkT [2, 14, 12, 13, 0] (V40 N C k s), mkH (laidL N C at_ I wd s.m s.pl), 104⟩
theorem lay_round (wd : Nat → Bool) (k : Nat) (s : LSt) (hN : N < 9223372036854775808) : ∃ n, walk (lookF FL) scD 1000 x40_22 (S40 N C at_ I wd k s).t (S40 N C at_ I wd k s).h 104 ⟨[2, 14], [.id 101, .id 102], [12, 13, 0], [103, 2, 100]⟩ ⟨[2, 14], [.id 101, .id 102], [12, 13, 0], [103, 2, 100]⟩ ⟨[], [], [], []⟩ =
    some ⟨bif decide (k < N) then ⟨[some (true, .int .i64 (layStep I wd k s).cur), some (true, .int .i64 ((k + 1 : Nat) : Int))], [(101, some (layStep I wd k s).m.blk), (102, some (.rows N 1 (ints (layStep I wd k s).pl) false false))], .normal, n⟩
      else ⟨[some (true, .int .i64 s.cur), some (true, .int .i64 k)], [(101, some s.m.blk), (102, some (.rows N 1 (ints s.pl) false false))], .exit 0, n⟩, none⟩ := by
  have e := p40_b k s.cur N C at_ I wd s.m s.pl
  simp only [rowSet_ints, lmap_set, lmap_same, isE_fold] at e
  by_cases h : k < N
  · refine ⟨105, e.trans ?_⟩
    simp only [h, decide_true, cond_true, wrap_succ h hN, layStep]
    cases isE (I.lb k)
    · rfl
    · cases wd k <;> rfl
  · refine ⟨104, e.trans ?_⟩
    simp only [h, decide_false, cond_false]
/-- lay: where all stand. -/
theorem b40 (wd : Nat → Bool) (m : LMap) (pl : Nat → Int) (hN : N < 9223372036854775808) : Body Try.prog 40 [pp] (mkH (laidH N C at_ I wd m pl)) (.tuple ⟨[]⟩)
    [(101, some (layIt I wd ⟨at_, m, pl⟩ N).m.blk), (102, some (.rows N 1 (ints (layIt I wd ⟨at_, m, pl⟩ N).pl) false false))] 104 0 := by
  refine body_of mixed fx40 (by simp) fun ρ w hd => ?_
  refine xwp_toLoop FOKD 1000 (p40_a N C at_ I wd m pl) (S40 N C at_ I wd 0 ⟨at_, m, pl⟩)
    ⟨V40 N C 0 ⟨at_, m, pl⟩, laidL N C at_ I wd m pl, 104, rfl, rfl, ⟨rfl, rfl, rfl, rfl, rfl, trivial⟩, bis_lmap, bis_ints, rfl, bis_its, bis_bools, trivial⟩ ?_
  refine xwp_loopR (fun k => S40 N C at_ I wd k (layIt I wd ⟨at_, m, pl⟩ k)) (fun k => k ≤ N) (fun k => N - k) 0 (Nat.zero_le _) fun k hk => ?_
  obtain ⟨n, hn⟩ := lay_round N C at_ I wd k (layIt I wd ⟨at_, m, pl⟩ k) hN
  by_cases h : k < N
  · simp only [h, decide_true, cond_true] at hn
    refine xwp_toEnd (cl_round (cl_ctx cl_fin _)) FOKD 1000 hn (S40 N C at_ I wd (k + 1) (layIt I wd ⟨at_, m, pl⟩ (k + 1)))
      ⟨V40 N C (k + 1) (layIt I wd ⟨at_, m, pl⟩ (k + 1)), laidL N C at_ I wd (layIt I wd ⟨at_, m, pl⟩ (k + 1)).m (layIt I wd ⟨at_, m, pl⟩ (k + 1)).pl, 104, rfl, rfl, ⟨rfl, rfl, rfl, rfl, rfl, trivial⟩, bis_lmap, bis_ints, rfl, bis_its, bis_bools, trivial⟩ ⟨k + 1, h, Nat.sub_succ_lt_self N k h, Wk.refl _ _⟩
  · simp only [h, decide_false, cond_false] at hn
    have : k = N := by omega
    subst this
    refine xwp_toEnd (cl_round (cl_ctx cl_fin _)) FOKD 1000 hn (S40 k C at_ I wd k (layIt I wd ⟨at_, m, pl⟩ k))
      ⟨V40 k C k (layIt I wd ⟨at_, m, pl⟩ k), laidL k C at_ I wd (layIt I wd ⟨at_, m, pl⟩ k).m (layIt I wd ⟨at_, m, pl⟩ k).pl, 104, rfl, rfl, ⟨rfl, rfl, rfl, rfl, rfl, trivial⟩, bis_lmap, bis_ints, rfl, bis_its, bis_bools, trivial⟩ ?_
    exact fin_of rfl ⟨rfl, rfl, rfl, rfl, rfl, trivial, trivial, trivial⟩ rfl rfl
/-! widen -/
/-- Does a branch go too far for one word? -/
def farF (I : Its) (m : LMap) (pl : Nat → Int) (wd : Nat → Bool) (k : Nat) : Bool :=
  isE (I.lb k) && branchF (I.op k) && !isE (I.to k) && !wd k && !fitsF (I.op k) (IntKind.i64.wrap (m.val (.string (I.to k)) - pl k))
structure WSt where
  more : Bool
  wd : Nat → Bool
def widStep (I : Its) (m : LMap) (pl : Nat → Int) (k : Nat) (s : WSt) : WSt := bif farF I m pl s.wd k then ⟨true, upd s.wd k true⟩ else s
def widIt (I : Its) (m : LMap) (pl : Nat → Int) (s : WSt) : Nat → WSt
  | 0 => s
  | k + 1 => widStep I m pl k (widIt I m pl s k)
variable (m : LMap) (pl : Nat → Int)
def V41 (k : Nat) (s : WSt) : List Value := [.bool s.more, .int .i64 k, .slice (some ⟨2, 0, none⟩) N C, .int .i64 N, pp]
def S41 (k : Nat) (s : WSt) : St := ⟨mkT [3, 11, 9, 10, 0] (V41 N C k s), mkH (laidW N C at_ I s.wd m pl), 104⟩
theorem wid_round (k : Nat) (s : WSt) (hN : N < 9223372036854775808) : ∃ n, walk (lookF FL) scD 1000 x41_15 (S41 N C at_ I m pl k s).t (S41 N C at_ I m pl k s).h 104 ⟨[3, 11], [.id 100], [9, 10, 0], [103, 2, 101, 102]⟩ ⟨[3, 11], [.id 100], [9, 10, 0], [103, 2, 101, 102]⟩ ⟨[], [], [], []⟩ =
    some ⟨bif decide (k < N) then ⟨[some (true, .bool (widStep I m pl k s).more), some (true, .int .i64 ((k + 1 : Nat) : Int))], [(100, some (.rows N 1 (bools (widStep I m pl k s).wd) false false))], .normal, n⟩
      else ⟨[some (true, .bool s.more), some (true, .int .i64 k)], [(100, some (.rows N 1 (bools s.wd) false false))], .exit 0, n⟩, none⟩ := by
  have e := p41_b k s.more N C at_ I s.wd m pl
  simp only [rowSet_bools, isE_fold] at e
  by_cases h : k < N
  · refine ⟨105, e.trans ?_⟩
    simp only [h, decide_true, cond_true, wrap_succ h hN]
    change (bif farF I m pl s.wd k then _ else _) = _
    unfold widStep
    cases farF I m pl s.wd k <;> rfl
  · refine ⟨104, e.trans ?_⟩
    simp only [h, decide_false, cond_false]
/-- widen: the branches that go too far get two words. -/
theorem b41 (wd : Nat → Bool) (hN : N < 9223372036854775808) : Body Try.prog 41 [pp] (mkH (laidH N C at_ I wd m pl)) (.bool (widIt I m pl ⟨false, wd⟩ N).more)
    [(100, some (.rows N 1 (bools (widIt I m pl ⟨false, wd⟩ N).wd) false false))] 104 0 := by
  refine body_of mixed fx41 (by simp) fun ρ w hd => ?_
  refine xwp_toLoop FOKD 1000 (p41_a N C at_ I wd m pl) (S41 N C at_ I m pl 0 ⟨false, wd⟩)
    ⟨V41 N C 0 ⟨false, wd⟩, laidW N C at_ I wd m pl, 104, rfl, rfl, ⟨rfl, rfl, rfl, rfl, rfl, trivial⟩, bis_bools, rfl, bis_its, bis_lmap, bis_ints, trivial⟩ ?_
  refine xwp_loopR (fun k => S41 N C at_ I m pl k (widIt I m pl ⟨false, wd⟩ k)) (fun k => k ≤ N) (fun k => N - k) 0 (Nat.zero_le _) fun k hk => ?_
  obtain ⟨n, hn⟩ := wid_round N C at_ I m pl k (widIt I m pl ⟨false, wd⟩ k) hN
  by_cases h : k < N
  · simp only [h, decide_true, cond_true] at hn
    exact xwp_toEnd (cl_round (cl_ctx cl_fin _)) FOKD 1000 hn (S41 N C at_ I m pl (k + 1) (widIt I m pl ⟨false, wd⟩ (k + 1)))
      ⟨V41 N C (k + 1) (widIt I m pl ⟨false, wd⟩ (k + 1)), laidW N C at_ I (widIt I m pl ⟨false, wd⟩ (k + 1)).wd m pl, 104, rfl, rfl, ⟨rfl, rfl, rfl, rfl, rfl, trivial⟩, bis_bools, rfl, bis_its, bis_lmap, bis_ints, trivial⟩ ⟨k + 1, h, Nat.sub_succ_lt_self N k h, Wk.refl _ _⟩
  · simp only [h, decide_false, cond_false] at hn
    have : k = N := by omega
    subst this
    refine xwp_toEnd (cl_round (cl_ctx cl_fin _)) FOKD 1000 hn (S41 k C at_ I m pl k (widIt I m pl ⟨false, wd⟩ k))
      ⟨V41 k C k (widIt I m pl ⟨false, wd⟩ k), laidW k C at_ I (widIt I m pl ⟨false, wd⟩ k).wd m pl, 104, rfl, rfl, ⟨rfl, rfl, rfl, rfl, rfl, trivial⟩, bis_bools, rfl, bis_its, bis_lmap, bis_ints, trivial⟩ ?_
    show XWP _ x41_20 _ _
    exact xwp_toEnd cl_fin FOKD 1000 (p41_c k _ k C at_ I _ m pl) ⟨mkT [2] [.bool (widIt I m pl ⟨false, wd⟩ k).more], mkH (laidW k C at_ I (widIt I m pl ⟨false, wd⟩ k).wd m pl), 104⟩
      ⟨[.bool (widIt I m pl ⟨false, wd⟩ k).more], laidW k C at_ I (widIt I m pl ⟨false, wd⟩ k).wd m pl, 104, rfl, rfl, ⟨rfl, trivial⟩, bis_bools, rfl, bis_its, bis_lmap, bis_ints, trivial⟩ (fin_of rfl ⟨rfl, rfl, rfl, trivial, rfl, rfl, trivial⟩ rfl rfl)
/-! words -/
structure Ins where
  op : Int
  rd : Int
  rs1 : Int
  rs2 : Int
  imm : Int
def Ins.row (i : Ins) : List Value := [.int .i64 i.op, .int .i64 i.rd, .int .i64 i.rs1, .int .i64 i.rs2, .int .i64 i.imm]
/-- Has an item two words? -/
def twoF (I : Its) (wd : Nat → Bool) (k : Nat) : Bool := !isE (I.to k) && (!(I.part k == 1) && (!(I.part k == 2) && wd k))
def wordA (I : Its) (wd : Nat → Bool) (m : LMap) (pl : Nat → Int) (k : Nat) : Ins :=
  bif isE (I.to k) then ⟨I.op k, I.rd k, I.rs1 k, I.rs2 k, I.imm k⟩
  else bif I.part k == 1 then ⟨I.op k, I.rd k, I.rs1 k, I.rs2 k, upperF (m.val (.string (I.to k)))⟩
  else bif I.part k == 2 then ⟨I.op k, I.rd k, I.rs1 k, I.rs2 k, lowerF (m.val (.string (I.to k)))⟩
  else bif wd k then ⟨oppF (I.op k), I.rd k, I.rs1 k, I.rs2 k, 8⟩
  else ⟨I.op k, I.rd k, I.rs1 k, I.rs2 k, IntKind.i64.wrap (m.val (.string (I.to k)) - pl k)⟩
def wordJ (I : Its) (m : LMap) (pl : Nat → Int) (k : Nat) : Ins := ⟨53, 0, 0, 0, IntKind.i64.wrap (IntKind.i64.wrap (m.val (.string (I.to k)) - pl k) - 4)⟩
def wordI (I : Its) (wd : Nat → Bool) (m : LMap) (pl : Nat → Int) (k j : Nat) : Ins := cond (Nat.beq j 0) (wordA I wd m pl k) (wordJ I m pl k)
def wordsR (I : Its) (wd : Nat → Bool) (m : LMap) (pl : Nat → Int) (k : Nat) : Nat → List Value := fun j => (wordI I wd m pl k j).row
def wordsN (I : Its) (wd : Nat → Bool) (k : Nat) : Nat := bif twoF I wd k then 2 else 1
/-- words: those of an item. -/
theorem b42 (wd : Nat → Bool) (k : Nat) (hk : k < N) : Body Try.prog 42 [pp, .int .i64 k] (mkH (laidH N C at_ I wd m pl))
    (.slice (some ⟨104, 0, none⟩) (wordsN I wd k) (wordsN I wd k)) [(104, some (.rows (wordsN I wd k) 5 (wordsR I wd m pl k) false false))] 104 1 := by
  refine body_of mixed fx42 (by simp) fun ρ w hd => ?_
  have e := p42_ k N C at_ I wd m pl
  simp only [hk, decide_true, cond_true, isE_fold] at e
  have fin : ∀ {c : Nat} {f : Nat → List Value}, walk (lookF FL) scD 1000 x42 (argTm 0 [pp, .int .i64 k]) (mkH (laidH N C at_ I wd m pl)) 104 ⟨[4], [.tmp 4], [], [103, 2, 100, 101, 102]⟩ ⟨[4], [.tmp 4], [], [103, 2, 100, 101, 102]⟩ ⟨[], [], [], []⟩ =
      some ⟨⟨[some (true, .slice (some ⟨105, 0, none⟩) c c)], [(105, some (.rows c 5 f false false))], .ret, 106⟩, none⟩ → c = wordsN I wd k → (∀ j, j < c → rnL (stayOr 104 [(104, 105), (103, 103), (2, 2), (100, 100), (101, 101), (102, 102)]) (wordsR I wd m pl k j) = f j) →
      XWP (envOf Try.prog 99 104 (mkH (laidH N C at_ I wd m pl)) mixed ρ w hd).toEnv x42 (finP (envOf Try.prog 99 104 (mkH (laidH N C at_ I wd m pl)) mixed ρ w hd).toEnv [(4, none)] (mkH (laidH N C at_ I wd m pl)) (.slice (some ⟨104, 0, none⟩) (wordsN I wd k) (wordsN I wd k))
        [(104, some (.rows (wordsN I wd k) 5 (wordsR I wd m pl k) false false))] 1) ⟨argTm 0 [pp, .int .i64 k], mkH (laidH N C at_ I wd m pl), 104⟩ := by
    intro c f he hc hf
    subst hc
    exact xwp_toEnd cl_fin FOKD 1000 he ⟨mkT [4] [.slice (some ⟨104, 0, none⟩) (wordsN I wd k) (wordsN I wd k)], mkH ((104, .rows (wordsN I wd k) 5 (wordsR I wd m pl k) false false) :: laidH N C at_ I wd m pl), 105⟩
      ⟨[.slice (some ⟨104, 0, none⟩) (wordsN I wd k) (wordsN I wd k)], (104, .rows (wordsN I wd k) 5 (wordsR I wd m pl k) false false) :: laidH N C at_ I wd m pl, 105, rfl, rfl, ⟨rfl, trivial⟩, ⟨rfl, rfl, hf, .inr (.inl rfl), .inr rfl⟩, rfl, bis_its, bis_bools, bis_lmap, bis_ints, trivial⟩ (fin_of rfl ⟨rfl, rfl, rfl, rfl, rfl, rfl, trivial⟩ rfl rfl)
  have row1 : ∀ {n : Nat} {r : List Value}, r.length = 5 → ∀ j, j < 1 → slab r (j * 5) 5 = r := by
    intro n r hr j hj
    have : j = 0 := by omega
    subst this
    simp [slab, ← hr]
  by_cases h1 : isE (I.to k) = true
  · rw [h1] at e
    exact fin e (by simp [wordsN, twoF, h1]) (fun j hj => by have : j = 0 := by omega
                                                             subst this; simp only [wordsR, wordI, wordA, h1]; rfl)
  rw [Bool.not_eq_true] at h1
  rw [h1] at e
  by_cases h2 : (I.part k == 1) = true
  · change walk _ _ _ _ _ _ _ _ _ _ = (bif I.part k == 1 then _ else _) at e
    rw [h2] at e
    exact fin e (by simp [wordsN, twoF, h2]) (fun j hj => by have : j = 0 := by omega
                                                             subst this; simp only [wordsR, wordI, wordA, h1, h2]; rfl)
  rw [Bool.not_eq_true] at h2
  change walk _ _ _ _ _ _ _ _ _ _ = (bif I.part k == 1 then _ else _) at e
  rw [h2] at e
  by_cases h3 : (I.part k == 2) = true
  · change walk _ _ _ _ _ _ _ _ _ _ = (bif I.part k == 2 then _ else _) at e
    rw [h3] at e
    exact fin e (by simp [wordsN, twoF, h3]) (fun j hj => by have : j = 0 := by omega
                                                             subst this; simp only [wordsR, wordI, wordA, h1, h2, h3]; rfl)
  rw [Bool.not_eq_true] at h3
  change walk _ _ _ _ _ _ _ _ _ _ = (bif I.part k == 2 then _ else _) at e
  rw [h3] at e
  change walk _ _ _ _ _ _ _ _ _ _ = (bif wd k then _ else _) at e
  cases h4 : wd k with
  | true =>
    rw [h4] at e
    exact fin e (by simp [wordsN, twoF, h1, h2, h3, h4]) (fun j hj => by
      match j, hj with
      | 0, _ => simp only [wordsR, wordI, wordA, h1, h2, h3, h4]; rfl
      | 1, _ => simp only [wordsR, wordI, wordJ]; rfl)
  | false =>
    rw [h4] at e
    exact fin e (by simp [wordsN, twoF, h4]) (fun j hj => by have : j = 0 := by omega
                                                             subst this; simp only [wordsR, wordI, wordA, h1, h2, h3, h4]; rfl)
end
end Go.X
