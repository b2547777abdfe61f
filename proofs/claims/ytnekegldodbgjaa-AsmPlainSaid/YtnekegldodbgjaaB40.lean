import Derived.Test.YtnekegldodbgjaaB39
set_option linter.all false
set_option linter.unusedVariables false
set_option linter.unusedSimpArgs false
namespace Go.X
open Go Go.Proofs
set_option linter.unusedVariables false
set_option linter.unusedSimpArgs false
def wantR (J : Nat → Ins) : Nat → List Value := fun j => [.int .u32 (encW (J j))]
abbrev inpB (N : Nat) (J : Nat → Ins) : Nat × Blk := (2, .rows N 5 (insR J) false true)
abbrev inL (N C : Nat) : Value := .slice (some ⟨2, 0, none⟩) N C
theorem bis_in {σ : Nm} {N : Nat} {J : Nat → Ins} : BIs Try.prog σ (.rows N 5 (insR J) false true) (.rows N 5 (insR J) false true) := ⟨rfl, rfl, fun j hj => rfl, .inr (.inl rfl), .inl rfl⟩
theorem bis_want {σ : Nm} {N : Nat} {J : Nat → Ins} {f : Nat → List Value} (h : ∀ j, j < N → f j = wantR J j) : BIs Try.prog σ (.rows N 1 (wantR J) true false) (.rows N 1 f true false) :=
  ⟨rfl, rfl, fun j hj => by rw [h j hj]; rfl, .inl rfl, .inr rfl⟩
section
variable (a : Int) (N C : Nat) (J : Nat → Ins)
noncomputable abbrev EP (ρ : Rn) (w : World) (hd : ∀ id, 100 ≤ id → ρ id = none) : FEnv := envOf Try.prog 103 100 (mkH [inpB N J]) mixed ρ w hd
def V1P (x : Int) : Nat → List Value
  | 0 => [.int .i64 0, .slice none 0 0, .slice none 0 0, .bool true, .int .i64 N, inL N C, .int .i64 x]
  | k + 1 => [.int .i64 (k + 1 : Nat), .slice (some ⟨100, 0, none⟩) (k + 1) (k + 1), .slice (some ⟨101, 0, none⟩) (k + 1) (k + 1), .bool (plOk J (k + 1)), .int .i64 N, inL N C, .int .i64 x]
def H1P : Nat → List (Nat × Blk)
  | 0 => [inpB N J]
  | k + 1 => [(100, .rows (k + 1) 8 (plI J).row true false), (101, .rows (k + 1) 1 (wantR J) true false), inpB N J]
def S1P (x : Int) (k : Nat) : St := ⟨mkT [31, 5, 6, 7, 30, 29, 1] (V1P N C J x k), mkH (H1P N J k), 102⟩
variable {ρ : Rn} {w : World} {hd : ∀ id, 100 ≤ id → ρ id = none}
theorem row8 {k j : Nat} (f : Nat → List Value) (h : j < k + 1) (r : List Value) (hr : r.length = 8) (he : (plI J).row k = r) (hf : ∀ j, j < k → f j = (plI J).row j) :
    (rowCat f 0 k fun j => slab r (j * 8) 8) j = (plI J).row j := by
  by_cases hj : j < k
  · simp only [rowCat, lt_blt hj, cond_true, Nat.zero_add]
    exact hf j hj
  · have : j = k := by omega
    subst this
    have hb0 : Nat.blt j j = false := by rw [blt_dec]; simp
    simp only [rowCat, hb0, cond_false, Nat.sub_self]
    rw [he, Nat.zero_mul]
    show (r.drop 0).take 8 = r
    rw [List.drop_zero, ← hr, List.take_length]
theorem row1 {k j : Nat} (f : Nat → List Value) (h : j < k + 1) (r : List Value) (hr : r.length = 1) (he : wantR J k = r) (hf : ∀ j, j < k → f j = wantR J j) :
    (rowCat f 0 k fun j => slab r (j * 1) 1) j = wantR J j := by
  by_cases hj : j < k
  · simp only [rowCat, lt_blt hj, cond_true, Nat.zero_add]
    exact hf j hj
  · have : j = k := by omega
    subst this
    have hb0 : Nat.blt j j = false := by rw [blt_dec]; simp
    simp only [rowCat, hb0, cond_false, Nat.sub_self]
    rw [he, Nat.zero_mul]
    show (r.drop 0).take 1 = r
    rw [List.drop_zero, ← hr, List.take_length]
/-- The rounds. -/
theorem pl_round {x : Int} {Q : Post} (hcl : Cl (EP N J ρ w hd).toEnv Q) (hN : N ≤ 300) (h0 : 0 < N)
    (h : Q (.exit 0) (S1P N C J x N)) : XWP (EP N J ρ w hd).toEnv (.loop x4_24) Q (S1P N C J x 0) := by
  refine xwp_loopR (S1P N C J x) (fun k => k ≤ N) (fun k => N - k) 0 (Nat.zero_le _) fun k hk => ?_
  match k, hk with
  | 0, _ =>
    have eb := p4_b0 N C J x
    have g1 : decide (0 < (N : Int)) = true := by simp; omega
    have g2 : (decide (0 < N) && intRange 0 N) = true := by simp [intRange]; omega
    rw [g1, g2] at eb
    simp only [cond_true] at eb
    refine xwp_toEnd (cl_round hcl) FOKP 1000 eb (S1P N C J x 1) ⟨V1P N C J x 1, H1P N J 1, 102, rfl, rfl, ⟨rfl, rfl, rfl, rfl, rfl, rfl, rfl, trivial⟩, bis_str (n := 1) (fun j hj => ?_) (.inr rfl), bis_want (fun j hj => ?_), bis_in, trivial⟩ ⟨1, h0, show N - 1 < N - 0 by omega, Wk.refl _ _⟩
    · exact row8 J _ hj _ rfl rfl (fun _ h => absurd h (Nat.not_lt_zero _))
    · exact row1 J _ hj _ rfl rfl (fun _ h => absurd h (Nat.not_lt_zero _))
  | k + 1, hk =>
    have eb := p4_b (k + 1) N C J x (plOk J (k + 1)) (plI J).row (wantR J)
    by_cases hlt : k + 1 < N
    · have g1 : decide (k + 1 < N) = true := by simp [hlt]
      have g : (!decide (k + 1 + 1 ≤ k + 1) && decide (k + 1 ≤ k + 1) && decide ((k + 1 + 1) * 6 ≤ 1099511627776) && (!decide (k + 1 + 1 ≤ k + 1) && decide (k + 1 ≤ k + 1) && decide ((k + 1 + 1) * 89 ≤ 1099511627776))) = true := by simp; omega
      rw [g1, g, wrap_succ hlt (by omega)] at eb
      simp only [cond_true] at eb
      refine xwp_toEnd (cl_round hcl) FOKP 1000 eb (S1P N C J x (k + 1 + 1)) ⟨V1P N C J x (k + 1 + 1), H1P N J (k + 1 + 1), 102, rfl, rfl, ⟨rfl, rfl, rfl, rfl, rfl, rfl, rfl, trivial⟩, bis_str (n := 1) (fun j hj => ?_) (.inr rfl), bis_want (fun j hj => ?_), bis_in, trivial⟩ ⟨k + 1 + 1, hlt, show N - (k + 1 + 1) < N - (k + 1) by omega, Wk.refl _ _⟩
      · exact row8 J _ hj _ rfl rfl (fun _ _ => rfl)
      · exact row1 J _ hj _ rfl rfl (fun _ _ => rfl)
    · have hkn : k + 1 = N := by omega
      have g1 : decide (k + 1 < N) = false := by simp [hlt]
      rw [g1] at eb
      simp only [cond_false] at eb
      refine xwp_toEnd (cl_round hcl) FOKP 1000 eb (S1P N C J x (k + 1)) ⟨V1P N C J x (k + 1), H1P N J (k + 1), 102, rfl, rfl, ⟨rfl, rfl, rfl, rfl, rfl, rfl, rfl, trivial⟩, bis_str (n := 1) (fun _ _ => rfl) (.inr rfl), bis_want (fun _ _ => rfl), bis_in, trivial⟩ ?_
      subst hkn
      exact h
end
end Go.X
namespace Go.X
open Go Go.Proofs
set_option linter.unusedVariables false
set_option linter.unusedSimpArgs false
theorem bis_wantU {σ : Nm} {N : Nat} {J : Nat → Ins} {f : Nat → List Value} (h : ∀ j, j < N → f j = wantR J j) : BIs Try.prog σ (.rows N 1 (fun j => [.int .u32 (encW (J j))]) true false) (.rows N 1 f true false) := bis_want h
section
variable (a : Int) (N C : Nat) (J : Nat → Ins)
variable {ρ : Rn} {w : World} {hd : ∀ id, 100 ≤ id → ρ id = none}
theorem mv_bad (a : Int) : badAt (mvAt a) = false := by
  obtain ⟨h0, h1, h4⟩ := mvAt_facts a
  have e1 : (mvAt a).tmod 4 = 0 := by rw [Int.tmod_eq_emod_of_nonneg h0]; exact h4
  have e2 : decide (mvAt a < 0) = false := by simp; omega
  have e3 : decide (mvAt a > 4194304) = false := by simp; omega
  unfold badAt
  rw [e1, e2, e3]; rfl
def V2P (k : Nat) : List Value := [.int .i64 k, .int .i64 N, .slice (some ⟨102, 0, none⟩) N N, .slice (some ⟨101, 0, none⟩) N N]
def H2P : List (Nat × Blk) := [(102, .rows N 1 (wantR J) true false), (101, .rows N 1 (wantR J) true false), inpB N J]
def S2P (k : Nat) : St := ⟨mkT [90, 89, 12, 6] (V2P N k), mkH (H2P N J), 104⟩
/-- From the call on, where there are items. -/
theorem pl_rest {x : Int} (hx : badAt x = false) {Q : Post} (hcl : Cl (EP N J ρ w hd).toEnv Q) (hN : N ≤ 300) (h0 : 0 < N)
    (hQ : Q .ret ⟨mkT [4] [.bool true], mkH [inpB N J], 100⟩) : XWP (EP N J ρ w hd).toEnv x4_62 Q (S1P N C J x N) := by
  obtain ⟨M, rfl⟩ : ∃ M, N = M + 1 := ⟨N - 1, by omega⟩
  have hE := pl_E J (N := M + 1) (x := x) (by omega) hx
  cases hok : plOk J (M + 1) with
  | false =>
    rw [hok] at hE
    have ef := p4_f (M + 1) C J x false (plI J) (wantR J)
    rw [decP_key] at ef
    rotate_left
    · exact ⟨rfl, fun _ _ => rfl, by omega, by rw [hE]; decide⟩
    rw [hE] at ef
    have hs : S1P (M + 1) C J x (M + 1) = ⟨mkT [31, 5, 6, 7, 30, 29, 1] [.int .i64 (M + 1 : Nat), .slice (some ⟨100, 0, none⟩) (M + 1) (M + 1), .slice (some ⟨101, 0, none⟩) (M + 1) (M + 1), .bool false, .int .i64 (M + 1 : Nat), inL (M + 1) C, .int .i64 x], mkH [(100, .rows (M + 1) 8 (plI J).row true false), (101, .rows (M + 1) 1 (wantR J) true false), inpB (M + 1) J], 102⟩ := by
      simp only [S1P, V1P, H1P, hok]
    rw [hs]
    exact xwp_toEnd hcl FOKQ 1000 ef _ ⟨[.bool true], [inpB (M + 1) J], 100, rfl, rfl, ⟨rfl, trivial⟩, bis_in, trivial⟩ hQ
  | true =>
    rw [hok] at hE
    have hE : asmE (plI J) x (M + 1) = 0 := hE
    have hs : S1P (M + 1) C J x (M + 1) = ⟨mkT [31, 5, 6, 7, 30, 29, 1] [.int .i64 (M + 1 : Nat), .slice (some ⟨100, 0, none⟩) (M + 1) (M + 1), .slice (some ⟨101, 0, none⟩) (M + 1) (M + 1), .bool true, .int .i64 (M + 1 : Nat), inL (M + 1) C, .int .i64 x], mkH [(100, .rows (M + 1) 8 (plI J).row true false), (101, .rows (M + 1) 1 (wantR J) true false), inpB (M + 1) J], 102⟩ := by
      simp only [S1P, V1P, H1P, hok]
    rw [hs]
    have hlen := pl_Wlen J x (M + 1)
    have hne : asmW (plI J) x (M + 1) ≠ [] := by intro h; rw [h] at hlen; simp at hlen
    have ee := p4_e (M + 1) C J x true (plI J) (wantR J)
    rw [decP_key] at ee
    rotate_left
    · exact ⟨rfl, fun _ _ => rfl, by omega, hE, hne⟩
    change walk _ _ _ _ _ _ _ _ _ _ = some ⟨⟨[some (true, .slice (some ⟨102, 0, none⟩) (asmW (plI J) x (M + 1)).length (asmW (plI J) x (M + 1)).length), some (true, .map (some 103)), some (true, .int .i64 0)],
      [(102, some (.rows (asmW (plI J) x (M + 1)).length 1 (fun j => [.int .u32 ((asmW (plI J) x (M + 1)).getD j 0)]) true false)), (103, some (finA (plI J) x (M + 1)).m.blk)], .normal, 104⟩, none⟩ at ee
    rw [hlen, pl_fin] at ee
    generalize hN1 : M + 1 = N at *
    refine xwp_seqW hcl FOKP 1000 ee rfl ⟨mkT [12, 13, 14, 6, 7] [.slice (some ⟨102, 0, none⟩) N N, .map (some 103), .int .i64 0, .slice (some ⟨101, 0, none⟩) N N, .bool true], mkH [(102, .rows N 1 (wantR J) true false), (103, m0.blk), (101, .rows N 1 (wantR J) true false), inpB N J], 104⟩
      ⟨[.slice (some ⟨102, 0, none⟩) N N, .map (some 103), .int .i64 0, .slice (some ⟨101, 0, none⟩) N N, .bool true], [(102, .rows N 1 (wantR J) true false), (103, m0.blk), (101, .rows N 1 (wantR J) true false), inpB N J], 104, rfl, rfl, ⟨rfl, rfl, rfl, rfl, rfl, trivial⟩, bis_want (fun j hj => by rw [pl_Wget J x hj]; rfl), bis_lmap, bis_want (fun _ _ => rfl), bis_in, trivial⟩ ?_
    have eg := p4_g N N J (wantR J) (wantR J) m0
    rw [show ((N : Int) != (N : Int) || ((m0.n : Nat) : Int) != 0) = false by simp [m0]] at eg
    simp only [cond_false] at eg
    refine xwp_toLoop FOKP 1000 eg (S2P N J 0) ⟨V2P N 0, H2P N J, 104, rfl, rfl, ⟨rfl, rfl, rfl, rfl, trivial⟩, bis_want (fun _ _ => rfl), bis_want (fun _ _ => rfl), bis_in, trivial⟩ ?_
    refine xwp_loopR (S2P N J) (fun k => k ≤ N) (fun k => N - k) 0 (Nat.zero_le _) fun k hk => ?_
    have eh := p4_h k N J (fun j => encW (J j)) (fun j => encW (J j))
    by_cases hkl : k < N
    · have g1 : decide (k < N) = true := by simp [hkl]
      rw [g1, wrap_succ hkl (by omega)] at eh
      simp only [bne_self_eq_false, cond_true, cond_false] at eh
      exact xwp_toEnd (cl_round (cl_ctx hcl _)) FOKP 1000 eh (S2P N J (k + 1)) ⟨V2P N (k + 1), H2P N J, 104, rfl, rfl, ⟨rfl, rfl, rfl, rfl, trivial⟩, bis_want (fun _ _ => rfl), bis_want (fun _ _ => rfl), bis_in, trivial⟩
        ⟨k + 1, hkl, Nat.sub_succ_lt_self _ k hkl, Wk.refl _ _⟩
    · have g1 : decide (k < N) = false := by simp [hkl]
      rw [g1] at eh
      simp only [cond_false] at eh
      refine xwp_toEnd (cl_round (cl_ctx hcl _)) FOKP 1000 eh (S2P N J k) ⟨V2P N k, H2P N J, 104, rfl, rfl, ⟨rfl, rfl, rfl, rfl, trivial⟩, bis_want (fun _ _ => rfl), bis_want (fun _ _ => rfl), bis_in, trivial⟩ ?_
      show XWP _ x4_58 Q _
      exact xwp_toEnd hcl FOKP 1000 (p4_i k N J (fun j => encW (J j)) (fun j => encW (J j))) ⟨mkT [4] [.bool true], mkH [inpB N J], 100⟩ ⟨[.bool true], [inpB N J], 100, rfl, rfl, ⟨rfl, trivial⟩, bis_in, trivial⟩ hQ
end
end Go.X
namespace Go.X
open Go Go.Proofs
set_option linter.unusedVariables false
set_option linter.unusedSimpArgs false
section
variable (a : Int) (N C : Nat) (J : Nat → Ins)
variable {ρ : Rn} {w : World} {hd : ∀ id, 100 ≤ id → ρ id = none}
theorem pl_all {Q : Post} (hcl : Cl (EP N J ρ w hd).toEnv Q) (hQ : Q .ret ⟨mkT [4] [.bool true], mkH [inpB N J], 100⟩) :
    XWP (EP N J ρ w hd).toEnv x4 Q ⟨argTm 0 [inL N C, .int .i64 a], mkH [inpB N J], 100⟩ := by
  have ea := p4_a a N C J
  have hx := mv_bad a
  by_cases h300 : N ≤ 300
  · have g : decide ((N : Int) > 300) = false := by simp; omega
    rw [g] at ea
    simp only [cond_false] at ea
    change walk _ _ _ _ _ _ _ _ _ _ = some ⟨⟨[_, _, _, _, _, _, some (true, .int .i64 (mvAt a))], _, _, _⟩, _⟩ at ea
    generalize mvAt a = x at *
    refine xwp_toLoop FOKP 1000 ea (S1P N C J x 0) ⟨V1P N C J x 0, H1P N J 0, 102, rfl, rfl, ⟨rfl, rfl, rfl, rfl, rfl, rfl, rfl, trivial⟩, bis_in, trivial⟩ ?_
    by_cases h0 : N = 0
    · subst h0
      refine xwp_loopR (fun _ : Nat => S1P 0 C J x 0) (fun _ => True) (fun _ => 0) 0 trivial fun k _ => ?_
      refine xwp_toEnd (cl_round (cl_ctx hcl _)) FOKR 1000 (p4_z0 C J x) ⟨mkT [5, 6, 7, 1] [.slice none 0 0, .slice none 0 0, .bool true, .int .i64 x], mkH [inpB 0 J], 102⟩ ⟨[.slice none 0 0, .slice none 0 0, .bool true, .int .i64 x], [inpB 0 J], 102, rfl, rfl, ⟨rfl, rfl, rfl, rfl, trivial⟩, bis_in, trivial⟩ ?_
      show XWP _ x4_62 Q _
      have e1 := p4_z1 J x
      rw [hx] at e1
      refine xwp_toLoop FOKR 1000 e1 ⟨mkT [90, 89] [.int .i64 0, .int .i64 0], mkH [inpB 0 J], 102⟩ ⟨[.int .i64 0, .int .i64 0], [inpB 0 J], 102, rfl, rfl, ⟨rfl, rfl, trivial⟩, bis_in, trivial⟩ ?_
      refine xwp_loopR (fun _ : Nat => ⟨mkT [90, 89] [.int .i64 0, .int .i64 0], mkH [inpB 0 J], 102⟩) (fun _ => True) (fun _ => 0) 0 trivial fun k _ => ?_
      refine xwp_toEnd (cl_round (cl_ctx hcl _)) FOKR 1000 (p4_z2 J) ⟨mkT [] [], mkH [inpB 0 J], 102⟩ ⟨[], [inpB 0 J], 102, rfl, rfl, trivial, bis_in, trivial⟩ ?_
      show XWP _ x4_58 Q _
      exact xwp_toEnd hcl FOKR 1000 (p4_z3 J) ⟨mkT [4] [.bool true], mkH [inpB 0 J], 100⟩ ⟨[.bool true], [inpB 0 J], 100, rfl, rfl, ⟨rfl, trivial⟩, bis_in, trivial⟩ hQ
    · exact pl_round N C J (cl_ctx hcl _) h300 (by omega) (show XWP _ x4_62 Q _ from pl_rest N C J hx hcl h300 (by omega) hQ)
  · have g : decide ((N : Int) > 300) = true := by simp; omega
    rw [g] at ea
    simp only [cond_true] at ea
    exact xwp_toEnd hcl FOKP 1000 ea ⟨mkT [4] [.bool true], mkH [inpB N J], 100⟩ ⟨[.bool true], [inpB N J], 100, rfl, rfl, ⟨rfl, trivial⟩, bis_in, trivial⟩ hQ
/-- AsmPlain. -/
theorem c4 : Body Try.prog 4 [inL N C, .int .i64 a] (mkH [inpB N J]) (.bool true) [] 100 0 :=
  body_of mixed fx4 (by simp) fun ρ w hd => pl_all a N C J cl_fin (fin_of rfl ⟨rfl, trivial⟩ rfl rfl)
end
end Go.X
namespace Go.X
open Go Go.Proofs
set_option linter.unusedVariables false
set_option linter.unusedSimpArgs false
section
attribute [local congr] cond_ctx
theorem p4_n (a : Int) : walk (lookF FL) scR 1000 x4 (argTm 0 [Value.slice none 0 0, Value.int IntKind.i64 a]) [] 100 (Pj.mk [] [] [] []) (Pj.mk [4] [] [] []) (Pj.mk [31, 5, 6, 7, 30, 29, 1] [] [] []) = some (Stop.mk (Leaf.mk [some (true, Value.int IntKind.i64 0), some (true, Value.slice none 0 0), some (true, Value.slice none 0 0), some (true, Value.bool true), some (true, Value.int IntKind.i64 0), some (true, Value.slice none 0 0), some (true, Value.int IntKind.i64 (IntKind.i64.wrap (4 * IntKind.i64.wrap ((IntKind.u64.wrap a).tmod 1000000))))] [] Exit.normal 100) (some (x4_24, [Cx.bl 0, Cx.sq x4_62]))) := by kernel_rfl
theorem p4_n0 (x : Int) : walk (lookF FL) scR 1000 x4_24 (mkT [31, 5, 6, 7, 30, 29, 1] [Value.int IntKind.i64 0, Value.slice none 0 0, Value.slice none 0 0, Value.bool true, Value.int IntKind.i64 0, Value.slice none 0 0, Value.int IntKind.i64 x]) [] 102 (Pj.mk [5, 6, 7] [] [1] []) (Pj.mk [] [] [] []) (Pj.mk [] [] [] []) = some (Stop.mk (Leaf.mk [some (true, Value.slice none 0 0), some (true, Value.slice none 0 0), some (true, Value.bool true)] [] (Exit.exit 0) 102) none) := by kernel_rfl
theorem p4_n1 (x : Int) : walk (lookF FL) scR 1000 x4_62 (mkT [5, 6, 7, 1] [Value.slice none 0 0, Value.slice none 0 0, Value.bool true, Value.int IntKind.i64 x]) [] 102 (Pj.mk [] [] [] []) (Pj.mk [4] [] [] []) (Pj.mk [90, 89] [] [] []) = bif !badAt x then some (Stop.mk (Leaf.mk [some (true, Value.int IntKind.i64 0), some (true, Value.int IntKind.i64 0)] [] Exit.normal 103) (some (x4_53, [Cx.bl 2, Cx.sq x4_58]))) else none := Eq.trans (b := bif !badAt x && true then some (Stop.mk (Leaf.mk [some (true, Value.int IntKind.i64 0), some (true, Value.int IntKind.i64 0)] [] Exit.normal 103) (some (x4_53, [Cx.bl 2, Cx.sq x4_58]))) else none) (by kernel_rfl) (by simp (contextual := true) only [bn, bc])
theorem p4_n2  : walk (lookF FL) scR 1000 x4_53 (mkT [90, 89] [Value.int IntKind.i64 0, Value.int IntKind.i64 0]) [] 102 (Pj.mk [] [] [] []) (Pj.mk [4] [] [] []) (Pj.mk [] [] [] []) = some (Stop.mk (Leaf.mk [] [] (Exit.exit 2) 102) none) := by kernel_rfl
theorem p4_n3  : walk (lookF FL) scR 1000 x4_58 (mkT [] []) [] 102 (Pj.mk [] [] [] []) (Pj.mk [4] [] [] []) (Pj.mk [] [] [] []) = some (Stop.mk (Leaf.mk [some (true, Value.bool true)] [] Exit.ret 102) none) := by kernel_rfl
end
noncomputable abbrev EN (ρ : Rn) (w : World) (hd : ∀ id, 100 ≤ id → ρ id = none) : FEnv := envOf Try.prog 103 100 [] mixed ρ w hd
section
variable (a : Int)
variable {ρ : Rn} {w : World} {hd : ∀ id, 100 ≤ id → ρ id = none}
theorem pl_nil {Q : Post} (hcl : Cl (EN ρ w hd).toEnv Q) (hQ : Q .ret ⟨mkT [4] [.bool true], [], 100⟩) :
    XWP (EN ρ w hd).toEnv x4 Q ⟨argTm 0 [.slice none 0 0, .int .i64 a], [], 100⟩ := by
  have ea := p4_n a
  have hx := mv_bad a
  change walk _ _ _ _ _ _ _ _ _ _ = some ⟨⟨[_, _, _, _, _, _, some (true, .int .i64 (mvAt a))], _, _, _⟩, _⟩ at ea
  generalize mvAt a = x at *
  refine xwp_toLoop FOKR 1000 ea ⟨mkT [31, 5, 6, 7, 30, 29, 1] [.int .i64 0, .slice none 0 0, .slice none 0 0, .bool true, .int .i64 0, .slice none 0 0, .int .i64 x], [], 102⟩ ⟨[.int .i64 0, .slice none 0 0, .slice none 0 0, .bool true, .int .i64 0, .slice none 0 0, .int .i64 x], [], 102, rfl, rfl, ⟨rfl, rfl, rfl, rfl, rfl, rfl, rfl, trivial⟩, trivial⟩ ?_
  refine xwp_loopR (fun _ : Nat => ⟨mkT [31, 5, 6, 7, 30, 29, 1] [.int .i64 0, .slice none 0 0, .slice none 0 0, .bool true, .int .i64 0, .slice none 0 0, .int .i64 x], [], 102⟩) (fun _ => True) (fun _ => 0) 0 trivial fun k _ => ?_
  refine xwp_toEnd (cl_round (cl_ctx hcl _)) FOKR 1000 (p4_n0 x) ⟨mkT [5, 6, 7, 1] [.slice none 0 0, .slice none 0 0, .bool true, .int .i64 x], [], 102⟩ ⟨[.slice none 0 0, .slice none 0 0, .bool true, .int .i64 x], [], 102, rfl, rfl, ⟨rfl, rfl, rfl, rfl, trivial⟩, trivial⟩ ?_
  show XWP _ x4_62 Q _
  have e1 := p4_n1 x
  rw [hx] at e1
  refine xwp_toLoop FOKR 1000 e1 ⟨mkT [90, 89] [.int .i64 0, .int .i64 0], [], 102⟩ ⟨[.int .i64 0, .int .i64 0], [], 102, rfl, rfl, ⟨rfl, rfl, trivial⟩, trivial⟩ ?_
  refine xwp_loopR (fun _ : Nat => ⟨mkT [90, 89] [.int .i64 0, .int .i64 0], [], 102⟩) (fun _ => True) (fun _ => 0) 0 trivial fun k _ => ?_
  refine xwp_toEnd (cl_round (cl_ctx hcl _)) FOKR 1000 p4_n2 ⟨mkT [] [], [], 102⟩ ⟨[], [], 102, rfl, rfl, trivial, trivial⟩ ?_
  show XWP _ x4_58 Q _
  exact xwp_toEnd hcl FOKR 1000 p4_n3 ⟨mkT [4] [.bool true], [], 100⟩ ⟨[.bool true], [], 100, rfl, rfl, ⟨rfl, trivial⟩, trivial⟩ hQ
theorem c4n : Body Try.prog 4 [.slice none 0 0, .int .i64 a] [] (.bool true) [] 100 0 :=
  body_of mixed fx4 (by simp) fun ρ w hd => pl_nil a cl_fin (fin_of rfl trivial rfl rfl)
end
end Go.X
