import Derived.Test.YtnekegldodbgjaaF32
set_option linter.all false
set_option linter.unusedVariables false
set_option linter.unusedSimpArgs false
namespace Go.X
open Go Go.Proofs
set_option linter.unusedVariables false
set_option linter.unusedSimpArgs false
def callR (e : REnv) (s : RSt) (k : KM) : Bool × RSt :=
  bif s.m.x 17 == 1 then (true, { s with m := finM s.m s.m k true, oN := s.oN + 1, of := outMore s.of s.oN (IntKind.u8.wrap (s.m.x 10)) })
  else bif s.m.x 17 == 2 then (bif e.bi && Nat.blt s.ik e.L0 then (true, { s with m := finM s.m (inMore s.m (e.inp (e.k0 + s.ik))) k true, ik := s.ik + 1 }) else (true, { s with m := finM s.m (inMax s.m) k true }))
  else bif s.m.x 17 == 3 || (s.m.x 17 == 4 || s.m.x 17 == 5) then (true, { s with m := finM s.m (endM s.m) k true })
  else (false, { s with m := finM s.m s.m k false })
def stepG (mem : REnv → RSt → Ans → Bool × RSt) (e : REnv) (s : RSt) : Bool × RSt :=
  bif plB s.m.sz s.m.pl 4 then
    (bif (decA (w32 s.m)).err == 0 then
      (bif plainB (decA (w32 s.m)).q then (true, { s with m := stepM s.m s.m.kn' (decA (w32 s.m)).q (decA (w32 s.m)).c, mark := markF (decA (w32 s.m)).q (decA (w32 s.m)).c s.mark })
      else bif (decA (w32 s.m)).q == 55 then callR e s s.m.kn' else mem e s (decA (w32 s.m)))
    else (false, s))
  else (false, s)
structure BaseOK (e : REnv) (n : Nat) (s : RSt) : Prop where
  sz : szB s.m.sz = true
  pl : uB s.m.pl = true
  x : ∀ j, uB (s.m.x j) = true
  kn : s.m.kn.OK
  se : SeOK s.sN s.sf
  out : s.oN ≤ n
  cap : e.L0 ≤ e.C0
  top : e.k0 + e.L0 ≤ e.T
  ik : s.ik ≤ e.L0
theorem stay_vI {bi : Bool} {k L C : Nat} : Stay (vI bi k L C) := by cases bi <;> first | exact stay_nil | exact stay_in _ _ _
theorem stay_vO {bo : Bool} {n : Nat} : Stay (vO bo n) := by cases bo <;> first | exact stay_nil | exact stay_out _ _
theorem stay_vW {bs : Bool} {n : Nat} : Stay (vW bs n) := by cases bs <;> first | exact stay_nil | exact stay_seen _ _
theorem has0 (e : REnv) (s : RSt) : Has (mkH (s.hp e)) (preS s.m (s.rb e) []) := ⟨rfl, rfl, rfl, rfl, trivial⟩
theorem hasI (e : REnv) (s : RSt) (h : e.bi = true) : Has (mkH (s.hp e)) (preS s.m (s.rb e) [(40, inB e.T e.inp)]) := by
  refine ⟨rfl, rfl, rfl, rfl, ?_, trivial⟩
  show hget (mkH (core48 s.m (s.rb e) ++ extL e.bi _ _ _ _ _)) 40 = _
  rw [h]; rfl
theorem hasB (e : REnv) (s : RSt) (h : bO s.oN = true) : Has (mkH (s.hp e)) (preS s.m (s.rb e) [(101, outB s.oN s.of)]) := by
  refine ⟨rfl, rfl, rfl, rfl, ?_, trivial⟩
  show hget (mkH (core48 s.m (s.rb e) ++ extL e.bi (bO s.oN) _ _ _ _)) 101 = _
  rw [h]; cases e.bi <;> rfl
theorem kn_ok {m : MS} (h : m.kn.OK) : (m.kn').OK := by
  unfold MS.kn'
  cases hh : m.kn.has (.int .u32 (w32 m)) with
  | true => exact h
  | false =>
    cases he : ((decA (w32 m)).err != 0) with
    | true => exact h
    | false => exact h.add (by simpa using he)
theorem uB_put {x : Nat → Int} (hx : ∀ j, uB (x j) = true) (r : Int) {v : Option Int} (hv : ∀ y, v = some y → uB y = true) : ∀ j, uB (putR x r v j) = true := by
  intro j
  cases v with
  | none =>
    show uB (bif Nat.beq j 0 then 0 else x j) = true
    cases Nat.beq j 0
    · exact hx j
    · rfl
  | some y =>
    show uB (bif Nat.beq j 0 then 0 else bif Nat.beq (j + 1) (1 + r.toNat * 1) then y else x j) = true
    cases Nat.beq j 0
    · cases Nat.beq (j + 1) (1 + r.toNat * 1)
      · exact hx j
      · exact hv y rfl
    · rfl
theorem uB_at {x : Nat → Int} (hx : ∀ j, uB (x j) = true) {i : Nat} {v : Int} (hv : uB v = true) : ∀ j, uB (xAt x i v j) = true := by
  intro j
  show uB (bif Nat.beq j i then v else x j) = true
  cases Nat.beq j i
  · exact hx j
  · exact hv
theorem plain_rng {op : Int} (h1 : 28 ≤ op) (h2 : op ≤ 37) : 1 ≤ plainF op ∧ plainF op ≤ 27 := by
  obtain ⟨k, rfl⟩ : ∃ k : Nat, op = Int.ofNat k := ⟨op.toNat, by simp; omega⟩
  have : 28 ≤ k ∧ k ≤ 37 := by simp only [Int.ofNat_eq_natCast] at h1 h2; omega
  match k, this with
  | 28, _ => exact ⟨by decide, by decide⟩
  | 29, _ => exact ⟨by decide, by decide⟩
  | 30, _ => exact ⟨by decide, by decide⟩
  | 31, _ => exact ⟨by decide, by decide⟩
  | 32, _ => exact ⟨by decide, by decide⟩
  | 33, _ => exact ⟨by decide, by decide⟩
  | 34, _ => exact ⟨by decide, by decide⟩
  | 35, _ => exact ⟨by decide, by decide⟩
  | 36, _ => exact ⟨by decide, by decide⟩
  | 37, _ => exact ⟨by decide, by decide⟩
theorem uB_val {m : MS} (hx : ∀ j, uB (m.x j) = true) {op : Int} (ho : plainB op = true) (c : Cand) : ∀ y, valF m op c = some y → uB y = true := by
  simp only [plainB, Bool.or_eq_true, Bool.and_eq_true, decide_eq_true_eq] at ho
  obtain ⟨k, rfl⟩ : ∃ k : Nat, op = Int.ofNat k := ⟨op.toNat, by simp; omega⟩
  have h : (1 ≤ k ∧ k ≤ 37) ∨ (45 ≤ k ∧ k ≤ 54) := by simp only [Int.ofNat_eq_natCast] at ho; omega
  intro y hy
  match k, h with
  | 0, h => exact absurd h (by omega)
  | 1, _ => have e : some (doF 1 (m.x c.rs1.toNat) (m.x c.rs2.toNat)) = some y := hy; cases e; exact uB_do (by decide) (by decide) (hx _) (hx _)
  | 2, _ => have e : some (doF 2 (m.x c.rs1.toNat) (m.x c.rs2.toNat)) = some y := hy; cases e; exact uB_do (by decide) (by decide) (hx _) (hx _)
  | 3, _ => have e : some (doF 3 (m.x c.rs1.toNat) (m.x c.rs2.toNat)) = some y := hy; cases e; exact uB_do (by decide) (by decide) (hx _) (hx _)
  | 4, _ => have e : some (doF 4 (m.x c.rs1.toNat) (m.x c.rs2.toNat)) = some y := hy; cases e; exact uB_do (by decide) (by decide) (hx _) (hx _)
  | 5, _ => have e : some (doF 5 (m.x c.rs1.toNat) (m.x c.rs2.toNat)) = some y := hy; cases e; exact uB_do (by decide) (by decide) (hx _) (hx _)
  | 6, _ => have e : some (doF 6 (m.x c.rs1.toNat) (m.x c.rs2.toNat)) = some y := hy; cases e; exact uB_do (by decide) (by decide) (hx _) (hx _)
  | 7, _ => have e : some (doF 7 (m.x c.rs1.toNat) (m.x c.rs2.toNat)) = some y := hy; cases e; exact uB_do (by decide) (by decide) (hx _) (hx _)
  | 8, _ => have e : some (doF 8 (m.x c.rs1.toNat) (m.x c.rs2.toNat)) = some y := hy; cases e; exact uB_do (by decide) (by decide) (hx _) (hx _)
  | 9, _ => have e : some (doF 9 (m.x c.rs1.toNat) (m.x c.rs2.toNat)) = some y := hy; cases e; exact uB_do (by decide) (by decide) (hx _) (hx _)
  | 10, _ => have e : some (doF 10 (m.x c.rs1.toNat) (m.x c.rs2.toNat)) = some y := hy; cases e; exact uB_do (by decide) (by decide) (hx _) (hx _)
  | 11, _ => have e : some (doF 11 (m.x c.rs1.toNat) (m.x c.rs2.toNat)) = some y := hy; cases e; exact uB_do (by decide) (by decide) (hx _) (hx _)
  | 12, _ => have e : some (doF 12 (m.x c.rs1.toNat) (m.x c.rs2.toNat)) = some y := hy; cases e; exact uB_do (by decide) (by decide) (hx _) (hx _)
  | 13, _ => have e : some (doF 13 (m.x c.rs1.toNat) (m.x c.rs2.toNat)) = some y := hy; cases e; exact uB_do (by decide) (by decide) (hx _) (hx _)
  | 14, _ => have e : some (doF 14 (m.x c.rs1.toNat) (m.x c.rs2.toNat)) = some y := hy; cases e; exact uB_do (by decide) (by decide) (hx _) (hx _)
  | 15, _ => have e : some (doF 15 (m.x c.rs1.toNat) (m.x c.rs2.toNat)) = some y := hy; cases e; exact uB_do (by decide) (by decide) (hx _) (hx _)
  | 16, _ => have e : some (doF 16 (m.x c.rs1.toNat) (m.x c.rs2.toNat)) = some y := hy; cases e; exact uB_do (by decide) (by decide) (hx _) (hx _)
  | 17, _ => have e : some (doF 17 (m.x c.rs1.toNat) (m.x c.rs2.toNat)) = some y := hy; cases e; exact uB_do (by decide) (by decide) (hx _) (hx _)
  | 18, _ => have e : some (doF 18 (m.x c.rs1.toNat) (m.x c.rs2.toNat)) = some y := hy; cases e; exact uB_do (by decide) (by decide) (hx _) (hx _)
  | 19, _ => have e : some (doF 19 (m.x c.rs1.toNat) (m.x c.rs2.toNat)) = some y := hy; cases e; exact uB_do (by decide) (by decide) (hx _) (hx _)
  | 20, _ => have e : some (doF 20 (m.x c.rs1.toNat) (m.x c.rs2.toNat)) = some y := hy; cases e; exact uB_do (by decide) (by decide) (hx _) (hx _)
  | 21, _ => have e : some (doF 21 (m.x c.rs1.toNat) (m.x c.rs2.toNat)) = some y := hy; cases e; exact uB_do (by decide) (by decide) (hx _) (hx _)
  | 22, _ => have e : some (doF 22 (m.x c.rs1.toNat) (m.x c.rs2.toNat)) = some y := hy; cases e; exact uB_do (by decide) (by decide) (hx _) (hx _)
  | 23, _ => have e : some (doF 23 (m.x c.rs1.toNat) (m.x c.rs2.toNat)) = some y := hy; cases e; exact uB_do (by decide) (by decide) (hx _) (hx _)
  | 24, _ => have e : some (doF 24 (m.x c.rs1.toNat) (m.x c.rs2.toNat)) = some y := hy; cases e; exact uB_do (by decide) (by decide) (hx _) (hx _)
  | 25, _ => have e : some (doF 25 (m.x c.rs1.toNat) (m.x c.rs2.toNat)) = some y := hy; cases e; exact uB_do (by decide) (by decide) (hx _) (hx _)
  | 26, _ => have e : some (doF 26 (m.x c.rs1.toNat) (m.x c.rs2.toNat)) = some y := hy; cases e; exact uB_do (by decide) (by decide) (hx _) (hx _)
  | 27, _ => have e : some (doF 27 (m.x c.rs1.toNat) (m.x c.rs2.toNat)) = some y := hy; cases e; exact uB_do (by decide) (by decide) (hx _) (hx _)
  | 28, _ => have e : some (doF (plainF 28) (m.x c.rs1.toNat) (ofF c.imm)) = some y := hy; cases e; exact uB_do (plain_rng (by decide) (by decide)).1 (plain_rng (by decide) (by decide)).2 (hx _) (uB_of _)
  | 29, _ => have e : some (doF (plainF 29) (m.x c.rs1.toNat) (ofF c.imm)) = some y := hy; cases e; exact uB_do (plain_rng (by decide) (by decide)).1 (plain_rng (by decide) (by decide)).2 (hx _) (uB_of _)
  | 30, _ => have e : some (doF (plainF 30) (m.x c.rs1.toNat) (ofF c.imm)) = some y := hy; cases e; exact uB_do (plain_rng (by decide) (by decide)).1 (plain_rng (by decide) (by decide)).2 (hx _) (uB_of _)
  | 31, _ => have e : some (doF (plainF 31) (m.x c.rs1.toNat) (ofF c.imm)) = some y := hy; cases e; exact uB_do (plain_rng (by decide) (by decide)).1 (plain_rng (by decide) (by decide)).2 (hx _) (uB_of _)
  | 32, _ => have e : some (doF (plainF 32) (m.x c.rs1.toNat) (ofF c.imm)) = some y := hy; cases e; exact uB_do (plain_rng (by decide) (by decide)).1 (plain_rng (by decide) (by decide)).2 (hx _) (uB_of _)
  | 33, _ => have e : some (doF (plainF 33) (m.x c.rs1.toNat) (ofF c.imm)) = some y := hy; cases e; exact uB_do (plain_rng (by decide) (by decide)).1 (plain_rng (by decide) (by decide)).2 (hx _) (uB_of _)
  | 34, _ => have e : some (doF (plainF 34) (m.x c.rs1.toNat) (ofF c.imm)) = some y := hy; cases e; exact uB_do (plain_rng (by decide) (by decide)).1 (plain_rng (by decide) (by decide)).2 (hx _) (uB_of _)
  | 35, _ => have e : some (doF (plainF 35) (m.x c.rs1.toNat) (ofF c.imm)) = some y := hy; cases e; exact uB_do (plain_rng (by decide) (by decide)).1 (plain_rng (by decide) (by decide)).2 (hx _) (uB_of _)
  | 36, _ => have e : some (doF (plainF 36) (m.x c.rs1.toNat) (ofF c.imm)) = some y := hy; cases e; exact uB_do (plain_rng (by decide) (by decide)).1 (plain_rng (by decide) (by decide)).2 (hx _) (uB_of _)
  | 37, _ => have e : some (doF (plainF 37) (m.x c.rs1.toNat) (ofF c.imm)) = some y := hy; cases e; exact uB_do (plain_rng (by decide) (by decide)).1 (plain_rng (by decide) (by decide)).2 (hx _) (uB_of _)
  | 38, h => exact absurd h (by omega)
  | 39, h => exact absurd h (by omega)
  | 40, h => exact absurd h (by omega)
  | 41, h => exact absurd h (by omega)
  | 42, h => exact absurd h (by omega)
  | 43, h => exact absurd h (by omega)
  | 44, h => exact absurd h (by omega)
  | 45, _ => have e : (none : Option Int) = some y := hy; cases e
  | 46, _ => have e : (none : Option Int) = some y := hy; cases e
  | 47, _ => have e : (none : Option Int) = some y := hy; cases e
  | 48, _ => have e : (none : Option Int) = some y := hy; cases e
  | 49, _ => have e : (none : Option Int) = some y := hy; cases e
  | 50, _ => have e : (none : Option Int) = some y := hy; cases e
  | 51, _ => have e : some (IntKind.u64.wrap (ofF c.imm * 4096)) = some y := hy; cases e; exact uB_wrap _
  | 52, _ => have e : some (IntKind.u64.wrap (IntKind.u64.wrap (ofF c.imm * 4096) + m.pl)) = some y := hy; cases e; exact uB_wrap _
  | 53, _ => have e : some (nxt m) = some y := hy; cases e; exact uB_wrap _
  | 54, _ => have e : some (nxt m) = some y := hy; cases e; exact uB_wrap _
  | k + 55, h => exact absurd h (by omega)
theorem uB_next {m : MS} {op : Int} (ho : plainB op = true) (c : Cand) : uB (nextF m op c) = true := by
  simp only [plainB, Bool.or_eq_true, Bool.and_eq_true, decide_eq_true_eq] at ho
  obtain ⟨k, rfl⟩ : ∃ k : Nat, op = Int.ofNat k := ⟨op.toNat, by simp; omega⟩
  have h : (1 ≤ k ∧ k ≤ 37) ∨ (45 ≤ k ∧ k ≤ 54) := by simp only [Int.ofNat_eq_natCast] at ho; omega
  have hc : ∀ b : Bool, uB (bif b then IntKind.u64.wrap (m.pl + ofF c.imm) else nxt m) = true := fun b => by cases b <;> exact uB_wrap _
  match k, h with
  | 0, h => exact absurd h (by omega)
  | 1, _ => exact uB_wrap (m.pl + 4)
  | 2, _ => exact uB_wrap (m.pl + 4)
  | 3, _ => exact uB_wrap (m.pl + 4)
  | 4, _ => exact uB_wrap (m.pl + 4)
  | 5, _ => exact uB_wrap (m.pl + 4)
  | 6, _ => exact uB_wrap (m.pl + 4)
  | 7, _ => exact uB_wrap (m.pl + 4)
  | 8, _ => exact uB_wrap (m.pl + 4)
  | 9, _ => exact uB_wrap (m.pl + 4)
  | 10, _ => exact uB_wrap (m.pl + 4)
  | 11, _ => exact uB_wrap (m.pl + 4)
  | 12, _ => exact uB_wrap (m.pl + 4)
  | 13, _ => exact uB_wrap (m.pl + 4)
  | 14, _ => exact uB_wrap (m.pl + 4)
  | 15, _ => exact uB_wrap (m.pl + 4)
  | 16, _ => exact uB_wrap (m.pl + 4)
  | 17, _ => exact uB_wrap (m.pl + 4)
  | 18, _ => exact uB_wrap (m.pl + 4)
  | 19, _ => exact uB_wrap (m.pl + 4)
  | 20, _ => exact uB_wrap (m.pl + 4)
  | 21, _ => exact uB_wrap (m.pl + 4)
  | 22, _ => exact uB_wrap (m.pl + 4)
  | 23, _ => exact uB_wrap (m.pl + 4)
  | 24, _ => exact uB_wrap (m.pl + 4)
  | 25, _ => exact uB_wrap (m.pl + 4)
  | 26, _ => exact uB_wrap (m.pl + 4)
  | 27, _ => exact uB_wrap (m.pl + 4)
  | 28, _ => exact uB_wrap (m.pl + 4)
  | 29, _ => exact uB_wrap (m.pl + 4)
  | 30, _ => exact uB_wrap (m.pl + 4)
  | 31, _ => exact uB_wrap (m.pl + 4)
  | 32, _ => exact uB_wrap (m.pl + 4)
  | 33, _ => exact uB_wrap (m.pl + 4)
  | 34, _ => exact uB_wrap (m.pl + 4)
  | 35, _ => exact uB_wrap (m.pl + 4)
  | 36, _ => exact uB_wrap (m.pl + 4)
  | 37, _ => exact uB_wrap (m.pl + 4)
  | 38, h => exact absurd h (by omega)
  | 39, h => exact absurd h (by omega)
  | 40, h => exact absurd h (by omega)
  | 41, h => exact absurd h (by omega)
  | 42, h => exact absurd h (by omega)
  | 43, h => exact absurd h (by omega)
  | 44, h => exact absurd h (by omega)
  | 45, _ => exact hc (takenF 45 (m.x c.rs1.toNat) (m.x c.rs2.toNat))
  | 46, _ => exact hc (takenF 46 (m.x c.rs1.toNat) (m.x c.rs2.toNat))
  | 47, _ => exact hc (takenF 47 (m.x c.rs1.toNat) (m.x c.rs2.toNat))
  | 48, _ => exact hc (takenF 48 (m.x c.rs1.toNat) (m.x c.rs2.toNat))
  | 49, _ => exact hc (takenF 49 (m.x c.rs1.toNat) (m.x c.rs2.toNat))
  | 50, _ => exact hc (takenF 50 (m.x c.rs1.toNat) (m.x c.rs2.toNat))
  | 51, _ => exact uB_wrap (m.pl + 4)
  | 52, _ => exact uB_wrap (m.pl + 4)
  | 53, _ => exact uB_wrap (m.pl + ofF c.imm)
  | 54, _ => exact uB_bits .andNot (IntKind.u64.wrap (m.x c.rs1.toNat + ofF c.imm)) 1
  | k + 55, h => exact absurd h (by omega)
end Go.X
namespace Go.X
open Go Go.Proofs
set_option linter.unusedVariables false
set_option linter.unusedSimpArgs false
def MemOK (mem : REnv → RSt → Ans → Bool × RSt) (e : REnv) (n : Nat) (s : RSt) : Prop :=
  ∀ i k, FetchOK s.m i k → CandOK i.c → 38 ≤ i.q → i.q ≤ 44 → ∀ s', (mem e s i = (true, s') → Next e s s' ∧ BaseOK e (n + 1) s') ∧ (mem e s i = (false, s') → Fault e s s' ∧ BaseOK e n s')
section
variable {e : REnv} {n : Nat} {s s' : RSt} (hb : BaseOK e n s) (hn : (n : Int) < 1000000000) (D : DecU (w32 s.m)) (h0 : s.m.st = 0)
include hb
theorem fetch_ok (hp : plB s.m.sz s.m.pl 4 = true) (D : DecU (w32 s.m)) (he : (decA (w32 s.m)).err = 0) : FetchOK s.m (decA (w32 s.m)) s.m.kn' := ⟨hb.sz, hb.pl, hp, D, hb.kn, rfl, rfl, he⟩
theorem x0_of (h17 : s.m.x 17 ≠ 1 ∧ s.m.x 17 ≠ 2 ∧ s.m.x 17 ≠ 3 ∧ s.m.x 17 ≠ 4 ∧ s.m.x 17 ≠ 5) : s.m.x 17 = 0 ∨ 6 ≤ s.m.x 17 := by
  have := uB_iff.1 (hb.x 17)
  omega
theorem fin_base {m2 : MS} {k : KM} {ret : Bool} (hk : k.OK) (h1 : m2.sz = s.m.sz) (h3 : ∀ j, uB (m2.x j) = true) (h4 : ret = true ∨ m2.pl = s.m.pl) : szB (finM s.m m2 k ret).sz = true ∧ uB (finM s.m m2 k ret).pl = true ∧ (∀ j, uB ((finM s.m m2 k ret).x j) = true) ∧ (finM s.m m2 k ret).kn.OK := by
  cases ret with
  | true => exact ⟨by show szB m2.sz = true; rw [h1]; exact hb.sz, uB_wrap _, uB_put (v := none) h3 0 (fun y h => by cases h), hk⟩
  | false =>
    refine ⟨by show szB m2.sz = true; rw [h1]; exact hb.sz, ?_, h3, hk⟩
    show uB m2.pl = true
    rw [h4.resolve_left (by simp)]; exact hb.pl
include hn D
theorem call_next (hf : FetchOK s.m (decA (w32 s.m)) s.m.kn') (hc : CandOK (decA (w32 s.m)).c) (hq : (decA (w32 s.m)).q = 55) :
    (callR e s s.m.kn' = (true, s') → Next e s s' ∧ BaseOK e (n + 1) s') ∧ (callR e s s.m.kn' = (false, s') → Fault e s s' ∧ BaseOK e n s') := by
  have hf : FetchOK s.m ⟨55, (decA (w32 s.m)).c, 0⟩ s.m.kn' := by
    have h1 : decA (w32 s.m) = ⟨55, (decA (w32 s.m)).c, 0⟩ := by
      have he := hf.err
      generalize decA (w32 s.m) = i at *
      obtain ⟨q, c, er⟩ := i
      simp only at hq he
      subst hq; subst he; rfl
    rw [← h1]; exact hf
  have hko := kn_ok hb.kn
  have sv : Stay (s.vin e) := stay_vI
  have so : Stay (vO (bO s.oN) s.oN) := stay_vO
  have ss : Stay (vW (bO s.sN) s.sN) := stay_vW
  unfold callR
  cases h1 : (s.m.x 17 == 1) with
  | true =>
    have h1' : s.m.x 17 = 1 := by simpa using h1
    simp only [cond_true]
    refine ⟨fun h => ?_, fun h => by cases h⟩
    cases h
    obtain ⟨q1, q2, q3, q4⟩ := fin_base hb (m2 := s.m) (ret := true) hko rfl hb.x (.inl rfl)
    refine ⟨?_, q1, q2, q3, q4, hb.se, by show s.oN + 1 ≤ n + 1; have := hb.out; omega, hb.cap, hb.top, hb.ik⟩
    cases ho : bO s.oN with
    | false =>
      have hz : s.oN = 0 := by
        cases hx : s.oN with
        | zero => rfl
        | succ y => rw [hx] at ho; cases ho
      have hst := step_out0 (l := 1) sv ss hf hc rfl (call_out0 (wt := e.wt) (mk := s.mark) sv ss h1')
      have hof : outMore (fun _ => 0) 0 (IntKind.u8.wrap (s.m.x 10)) = outMore s.of s.oN (IntKind.u8.wrap (s.m.x 10)) ∨ True := .inr trivial
      refine .stO (preS s.m (s.rb e) []) (has0 e s) ?_ ⟨Nat.succ_pos _, rfl, rfl, rfl⟩
      have hrb : s.rb e = rB (s.vin e) (.slice none 0 0) s.mark e.wt (vW (bO s.sN) s.sN) := by unfold RSt.rb; rw [ho]; rfl
      rw [hrb]
      have e1 : outMore s.of s.oN (IntKind.u8.wrap (s.m.x 10)) = outMore (fun _ => 0) 0 (IntKind.u8.wrap (s.m.x 10)) := by
        funext j; rw [hz]; rfl
      simp only [e1, hz]
      exact hst
    | true =>
      have hst := step_out1 (l := s.oN + 1) sv ss hf hc rfl (call_out1 (wt := e.wt) (mk := s.mark) (oN := s.oN) (of := s.of) sv ss h1' (by have := hb.out; omega))
      refine .stO (preS s.m (s.rb e) [(101, outB s.oN s.of)]) (hasB e s ho) ?_ ⟨Nat.succ_pos _, rfl, rfl, rfl⟩
      have hrb : s.rb e = rB (s.vin e) (.slice (some ⟨101, 0, none⟩) s.oN s.oN) s.mark e.wt (vW (bO s.sN) s.sN) := by unfold RSt.rb; rw [ho]; rfl
      rw [hrb]
      exact hst
  | false =>
    cases h2 : (s.m.x 17 == 2) with
    | true =>
      have h2' : s.m.x 17 = 2 := by simpa using h2
      simp only [cond_false, cond_true]
      have noin : ∀ {m2 : MS}, Step0 (preS s.m (s.rb e) []) true (finM s.m (inMax s.m) s.m.kn' true) (s.rb e) ∨ (e.bi = true ∧ Step0 (preS s.m (s.rb e) [(40, inB e.T e.inp)]) true (finM s.m (inMax s.m) s.m.kn' true) (s.rb e)) → Next e s { s with m := finM s.m (inMax s.m) s.m.kn' true } ∧ BaseOK e (n + 1) { s with m := finM s.m (inMax s.m) s.m.kn' true } := by
        intro _ hst
        obtain ⟨q1, q2, q3, q4⟩ := fin_base hb (m2 := inMax s.m) (ret := true) hko rfl (uB_at hb.x rfl) (.inl rfl)
        refine ⟨?_, q1, q2, q3, q4, hb.se, by show s.oN ≤ n + 1; have := hb.out; omega, hb.cap, hb.top, hb.ik⟩
        rcases hst with hst | ⟨hbi, hst⟩
        · exact .st0 _ (has0 e s) hst ⟨rfl, rfl, rfl, rfl⟩
        · exact .st0 _ (hasI e s hbi) hst ⟨rfl, rfl, rfl, rfl⟩
      cases hbi : e.bi with
      | false =>
        simp only [Bool.false_and, cond_false]
        refine ⟨fun h => ?_, fun h => by cases h⟩
        cases h
        refine noin (m2 := s.m) (.inl ?_)
        have hrb : s.rb e = rB (.slice none 0 0) (vO (bO s.oN) s.oN) s.mark e.wt (vW (bO s.sN) s.sN) := by unfold RSt.rb RSt.vin; rw [hbi]; rfl
        rw [hrb]
        exact step_call (m2 := inMax s.m) stay_nil so ss stay_nil hf hc rfl (call_in0 so ss h2')
      | true =>
        have hrb : s.rb e = rB (inS (e.k0 + s.ik) (e.L0 - s.ik) (e.C0 - s.ik)) (vO (bO s.oN) s.oN) s.mark e.wt (vW (bO s.sN) s.sN) := by unfold RSt.rb RSt.vin; rw [hbi]; rfl
        have hcap := hb.cap
        have htop := hb.top
        have hik := hb.ik
        cases hlt : Nat.blt s.ik e.L0 with
        | true =>
          have hl := blt_lt hlt
          simp only [Bool.and_self, cond_true]
          refine ⟨fun h => ?_, fun h => by cases h⟩
          cases h
          obtain ⟨q1, q2, q3, q4⟩ := fin_base hb (m2 := inMore s.m (e.inp (e.k0 + s.ik))) (ret := true) hko rfl (uB_at hb.x (uB_wrap _)) (.inl rfl)
          refine ⟨?_, q1, q2, q3, q4, hb.se, by show s.oN ≤ n + 1; have := hb.out; omega, hb.cap, hb.top, by show s.ik + 1 ≤ e.L0; omega⟩
          refine .st0 (preS s.m (s.rb e) [(40, inB e.T e.inp)]) (hasI e s hbi) ?_ ⟨rfl, rfl, rfl, rfl⟩
          rw [hrb]
          have hst := step_calli (m2 := inMore s.m (e.inp (e.k0 + s.ik))) (stay_in _ _ _) so ss (stay_in _ _ _) hf hc rfl (call_in1 (m := s.m) (vout := vO (bO s.oN) s.oN) (se := vW (bO s.sN) s.sN) (mk := s.mark) (wt := e.wt) (T := e.T) (k := e.k0 + s.ik) (L := e.L0 - s.ik) (C := e.C0 - s.ik) (inp := e.inp) so ss h2' (by omega) (by omega) (by omega))
          have e1 : RSt.rb e { s with m := finM s.m (inMore s.m (e.inp (e.k0 + s.ik))) s.m.kn' true, ik := s.ik + 1 } = rB (inS (e.k0 + s.ik + 1) (e.L0 - s.ik - 1) (e.C0 - s.ik - 1)) (vO (bO s.oN) s.oN) s.mark e.wt (vW (bO s.sN) s.sN) := by
            unfold RSt.rb RSt.vin
            rw [hbi]
            rfl
          rw [e1]
          exact hst
        | false =>
          have hl : s.ik = e.L0 := by
            have : ¬ s.ik < e.L0 := fun h => by rw [lt_blt h] at hlt; cases hlt
            omega
          simp only [Bool.and_false, cond_false]
          refine ⟨fun h => ?_, fun h => by cases h⟩
          cases h
          refine noin (m2 := s.m) (.inr ⟨hbi, ?_⟩)
          rw [hrb, show e.L0 - s.ik = 0 by omega]
          exact step_calli (m2 := inMax s.m) (stay_in _ _ _) so ss (stay_in _ _ _) hf hc rfl (call_in2 so ss h2')
    | false =>
      simp only [cond_false]
      cases h3 : (s.m.x 17 == 3 || (s.m.x 17 == 4 || s.m.x 17 == 5)) with
      | true =>
        simp only [Bool.or_eq_true, beq_iff_eq] at h3
        simp only [cond_true]
        refine ⟨fun h => ?_, fun h => by cases h⟩
        cases h
        obtain ⟨q1, q2, q3, q4⟩ := fin_base hb (m2 := endM s.m) (ret := true) hko rfl hb.x (.inl rfl)
        exact ⟨.st0 _ (has0 e s) (step_call (m2 := endM s.m) (mk := s.mark) (wt := e.wt) sv so ss sv hf hc rfl (call_end sv so ss h3)) ⟨rfl, rfl, rfl, rfl⟩, q1, q2, q3, q4, hb.se, by show s.oN ≤ n + 1; have := hb.out; omega, hb.cap, hb.top, hb.ik⟩
      | false =>
        simp only [Bool.or_eq_false_iff, beq_eq_false_iff_ne] at h1 h2 h3
        simp only [cond_false]
        refine ⟨fun h => (by cases h), fun h => ?_⟩
        cases h
        obtain ⟨q1, q2, q3, q4⟩ := fin_base hb (m2 := s.m) (ret := false) hko rfl hb.x (.inr rfl)
        exact ⟨⟨_, has0 e s, step_call (m2 := s.m) (mk := s.mark) (wt := e.wt) sv so ss sv hf hc rfl (call_no sv so ss (uB_iff.1 (hb.x 17)).1 (x0_of hb ⟨h1, h2, h3.1, h3.2.1, h3.2.2⟩)), rfl, rfl, rfl, rfl⟩, q1, q2, q3, q4, hb.se, hb.out, hb.cap, hb.top, hb.ik⟩
theorem next_of {mem : REnv → RSt → Ans → Bool × RSt} (hm : MemOK mem e n s) : (stepG mem e s = (true, s') → Next e s s' ∧ BaseOK e (n + 1) s') ∧ (stepG mem e s = (false, s') → Fault e s s' ∧ BaseOK e n s') := by
  have sv : Stay (s.vin e) := stay_vI
  have so : Stay (vO (bO s.oN) s.oN) := stay_vO
  have ss : Stay (vW (bO s.sN) s.sN) := stay_vW
  unfold stepG
  cases hp : plB s.m.sz s.m.pl 4 with
  | false =>
    refine ⟨fun h => (by cases h), fun h => ?_⟩
    cases h
    exact ⟨⟨_, has0 e s, step_no sv so ss (i := ans0) ⟨hb.sz, hb.pl, .inl ⟨hp, rfl⟩⟩, rfl, rfl, rfl, rfl⟩, hb⟩
  | true =>
    simp only [cond_true]
    cases he : ((decA (w32 s.m)).err == 0) with
    | false =>
      refine ⟨fun h => (by cases h), fun h => ?_⟩
      cases h
      have he' : (decA (w32 s.m)).err ≠ 0 := by simpa using he
      exact ⟨⟨_, has0 e s, step_no sv so ss (i := decA (w32 s.m)) ⟨hb.sz, hb.pl, .inr ⟨hp, D, hb.kn, rfl, he'⟩⟩, rfl, rfl, rfl, rfl⟩, hb⟩
    | true =>
      have he' : (decA (w32 s.m)).err = 0 := by simpa using he
      obtain ⟨hc, hq1, hq2, _, _⟩ := decA_ok he'
      have hf := fetch_ok hb hp D he'
      simp only [cond_true]
      cases hpl : plainB (decA (w32 s.m)).q with
      | true =>
        simp only [cond_true]
        refine ⟨fun h => ?_, fun h => by cases h⟩
        cases h
        have hf2 : FetchOK s.m ⟨(decA (w32 s.m)).q, (decA (w32 s.m)).c, 0⟩ s.m.kn' := by
          have h1 : decA (w32 s.m) = ⟨(decA (w32 s.m)).q, (decA (w32 s.m)).c, 0⟩ := by
            generalize decA (w32 s.m) = i at *
            obtain ⟨q, c, er⟩ := i
            simp only at he'
            subst he'; rfl
          rw [← h1]; exact hf
        refine ⟨.st0 _ (has0 e s) (step_plain sv so ss hpl hf2 hc hb.x) ⟨rfl, rfl, rfl, rfl⟩, hb.sz, uB_next hpl _, uB_put hb.x _ (uB_val hb.x hpl _), kn_ok hb.kn, hb.se, by show s.oN ≤ n + 1; have := hb.out; omega, hb.cap, hb.top, hb.ik⟩
      | false =>
        simp only [cond_false]
        cases h55 : ((decA (w32 s.m)).q == 55) with
        | true =>
          simp only [cond_true]
          exact call_next hb hn D hf hc (by simpa using h55)
        | false =>
          simp only [cond_false]
          have h55' : (decA (w32 s.m)).q ≠ 55 := by simpa using h55
          have : ¬ plainB (decA (w32 s.m)).q = true := by rw [hpl]; simp
          simp only [plainB, Bool.or_eq_true, Bool.and_eq_true, decide_eq_true_eq] at this
          exact hm _ _ hf hc (by omega) (by omega) s'
end
end Go.X
