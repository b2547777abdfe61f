import Derived.Test.YtnekegldodbgjaaD35
set_option linter.all false
set_option linter.unusedVariables false
set_option linter.unusedSimpArgs false
namespace Go.X
open Go Go.Proofs
set_option linter.unusedVariables false
set_option linter.unusedSimpArgs false
def exJ (bi : Bool) : List Nat := bif bi then [40] else []
section
variable (bi : Bool) (k L C T : Nat) (inp : Nat → Int)
theorem p6_0 : walk (lookF FL) noSc 1000 (.region x6_0) (argTm 0 [vI bi k L C]) (mkH (exI bi (inB T inp))) 50 ⟨[], [], [0], exJ bi⟩ ⟨[], [], [], []⟩ ⟨[], [], [], []⟩ = some ⟨⟨[], [], .normal, 50⟩, none⟩ := by cases bi <;> kernel_rfl
theorem p6_5 : walk (lookF FL) sc6 1000 x6_5 (mkT [0] [vI bi k L C]) (mkH (exI bi (inB T inp))) 50 ⟨[], [], [0], exJ bi⟩ ⟨[2], [], [], exJ bi⟩ ⟨[], [], [], []⟩ =
    bif bi && decide ((L : Int) > 200) then some ⟨⟨[some (true, .bool true)], [], .ret, 50⟩, none⟩ else some ⟨⟨[], [], .normal, 50⟩, none⟩ := by cases bi <;> kernel_rfl
theorem p6_12 : walk (lookF FL) noSc 1000 x6_12 (mkT [4, 5, 0] [pM, .int .i64 0, vI bi k L C]) (mkH ([(90, m6.memB), (91, m6.kn.blk), (92, m6.mB)] ++ exI bi (inB T inp))) 110 ⟨[], [], [4, 0], [90, 91, 92] ++ exJ bi⟩ ⟨[], [], [], []⟩ ⟨[], [], [], []⟩ =
    some ⟨⟨[], [], .normal, 110⟩, none⟩ := by cases bi <;> kernel_rfl
end
theorem u8_id {x : Int} (h0 : 0 ≤ x) (h1 : x < 256) : IntKind.u8.wrap x = x := by
  have : IntKind.u8.wrap x = x % 256 := by simp [IntKind.wrap, IntKind.bits, IntKind.signed]
  omega
theorem all_u8 (n : Nat) (g : Nat → Int) : ((List.range n).all fun j => isU8 [Value.int IntKind.u8 (g j)]) = true := List.all_eq_true.2 fun _ _ => rfl
theorem pre6_has (bi : Bool) (b : Blk) : Has (mkH ([(90, m6.memB), (91, m6.kn.blk), (92, m6.mB)] ++ exI bi b)) (pre48 m6 bi b) := by
  cases bi <;> first | exact ⟨rfl, rfl, rfl, trivial⟩ | exact ⟨rfl, rfl, rfl, rfl, trivial⟩
theorem b6 {bi : Bool} {k L C T : Nat} {inp : Nat → Int} (hcap : L ≤ C) (htop : k + L ≤ T) (hbyte : ∀ j, j < L → 0 ≤ inp (k + j) ∧ inp (k + j) < 256) (hnil : bi = false → L = 0) :
    Body Try.prog 6 [vI bi k L C] (mkH (exI bi (inB T inp))) (.bool true) [] 50 0 := by
  refine body_of mixed fx6 (by simp) fun ρ w hd => ?_
  let E := envOf Try.prog 70 50 (mkH (exI bi (inB T inp))) mixed ρ w hd
  have hfin : ∀ e, e = .ret → finP E.toEnv [(2, none)] (mkH (exI bi (inB T inp))) (.bool true) [] 0 e ⟨mkT [2] [.bool true], mkH (exI bi (inB T inp)), 50⟩ := fun e he => by
    subst he
    refine fin_of rfl ?_ rfl rfl
    cases bi
    · exact trivial
    · exact ⟨rfl, trivial⟩
  refine xwp_seqW (E := E) (s := ⟨argTm 0 [vI bi k L C], mkH (exI bi (inB T inp)), 50⟩) cl_fin FOK 1000 (p6_0 bi k L C T inp) rfl ⟨mkT [0] [vI bi k L C], mkH (exI bi (inB T inp)), 50⟩ ⟨_, _, _, rfl, by cases bi <;> rfl, ⟨by cases bi <;> rfl, trivial⟩, ?_⟩ ?_
  · cases bi
    · exact trivial
    · exact ⟨bis_inB, trivial⟩
  have e5 := p6_5 bi k L C T inp
  by_cases h200 : (bi && decide ((L : Int) > 200)) = true
  · rw [h200, cond_true] at e5
    refine xwp_seq (xwp_toEnd (E := E) (s := ⟨_, _, _⟩) (cl_seqP cl_fin) FOK6 1000 e5 ⟨mkT [2] [.bool true], mkH (exI bi (inB T inp)), 50⟩ ⟨_, _, _, rfl, by cases bi <;> rfl, ⟨rfl, trivial⟩, ?_⟩ (hfin _ rfl))
    cases bi
    · exact trivial
    · exact ⟨bis_inB, trivial⟩
  · rw [Bool.not_eq_true] at h200
    have hL : L ≤ 200 := by
      cases bi with
      | false => have := hnil rfl; omega
      | true => simp only [Bool.true_and, decide_eq_false_iff_not] at h200; omega
    rw [h200, cond_false] at e5
    refine xwp_seqW (E := E) (s := ⟨_, _, _⟩) cl_fin FOK6 1000 e5 rfl ⟨mkT [0] [vI bi k L C], mkH (exI bi (inB T inp)), 50⟩ ⟨_, _, _, rfl, by cases bi <;> rfl, ⟨by cases bi <;> rfl, trivial⟩, ?_⟩ ?_
    · cases bi
      · exact trivial
      · exact ⟨bis_inB, trivial⟩
    refine xwp_seq (xwp_exec (E := E) (s := ⟨_, _, _⟩) FOK6 100000 [] (e6A bi k L C (inB T inp)) rfl ?_)
    refine xwp_seq (xwp_exec (E := E) (s := ⟨_, _, _⟩) FOK6 100000 [] (e6B bi k L C (inB T inp)) rfl ?_)
    refine XWP.wk (wk6 bi k L C T inp (E := E) rfl rfl) ?_
    refine xwp_seqW (E := E) (s := ⟨_, _, _⟩) cl_fin FOK 1000 (p6_12 bi k L C T inp) rfl ⟨mkT [4, 0] [pM, vI bi k L C], mkH ([(90, m6.memB), (91, m6.kn.blk), (92, m6.mB)] ++ exI bi (inB T inp)), 110⟩ ⟨_, _, _, rfl, by cases bi <;> rfl, ⟨by cases bi <;> rfl, by cases bi <;> rfl, trivial⟩, ?_⟩ ?_
    · refine ⟨bis_mem, bis_kn, rfl, ?_⟩
      cases bi
      · exact trivial
      · exact ⟨bis_inB, trivial⟩
    let e : REnv := ⟨bi, T, inp, k, L, C, false⟩
    have hin : In6 e := ⟨hbyte, hnil⟩
    have h0 : EI e 0 ((0 : Nat) : Int) 0 0 0 0 (RSt.init m6) := ⟨rfl, rfl, rfl, rfl, rfl, rfl, rfl, rfl, rfl, rfl, fun j hj => absurd hj (Nat.not_lt_zero _)⟩
    have hb0 : BaseOK e 0 (RSt.init m6) := ⟨rfl, rfl, fun _ => rfl, fun w h => (by cases h), fun j hj => absurd hj (Nat.not_lt_zero _), Nat.le_refl _, hcap, htop, Nat.zero_le _⟩
    obtain ⟨s, hee, hrun⟩ := run6_all hin hL L 0 (Nat.zero_add L) h0 (3000 - (7 * L + 6)) 0
    rw [show 3000 - (7 * L + 6) + (7 * L + 6) = 3000 by omega, Nat.zero_add] at hrun
    have H := steps6 hin hL
    have hse : SeOK s.sN s.sf := by
      have := run_ok H (3000 : Int).toNat 0 (RSt.init m6) (by decide) ⟨hb0, .p0 0 0 0 (Nat.zero_le _) h0⟩
      rw [show (3000 : Int).toNat = 3000 from rfl, hrun] at this
      rcases this with ⟨n', hx⟩ | ⟨n', s1, hx, e1⟩
      · exact hx.1.se
      · simp only at e1; rw [e1]; exact hx.1.se
    have b := c24a (b24 hse (b48 e (by decide) H (by decide) m6 ⟨hb0, .p0 0 0 0 (Nat.zero_le _) h0⟩ hrun))
    have hst := hee.st
    have hcd := hee.cd
    have hoN : s.oN = L := hee.foN
    have hout := hee.out
    have hofj : ∀ j, j < L → s.of j = inp (k + j) := fun j hj => by
      rw [hout j hj]
      have := hbyte j hj
      show IntKind.u8.wrap (IntKind.u64.wrap (inp (k + j))) = _
      rw [u64_id (by omega) (by omega), u8_id this.1 this.2]
    have hcode : (IntKind.i64.wrap s.m.cd == (L : Int).tmod 256) = true := by
      rw [hcd]
      have e1 : IntKind.u8.wrap (L : Int) = (L : Int) % 256 := by simp [IntKind.wrap, IntKind.bits, IntKind.signed]
      rw [show e.L0 = L from rfl, e1, wrap_i (by omega) (by omega), Int.tmod_eq_emod_of_nonneg (by omega)]
      simp
    have hst1 : (s.m.st == 1) = true := by rw [hst]; rfl
    have hn7 : (((7 * L + 6 : Nat) : Int) == IntKind.i64.wrap (IntKind.i64.wrap (7 * (L : Int)) + 6)) = true := by
      rw [wrap_i (n := 7 * (L : Int)) (by omega) (by omega), wrap_i (by omega) (by omega)]
      simp
    rw [hoN] at b
    have last : ∀ {v : Bool}, v = true → LeafTo E ([2] ++ []) ⟨[some (true, .bool v)], (exJ bi).map fun i => (i, hget (mkH ([(90, m6.memB), (91, m6.kn.blk), (92, m6.mB)] ++ exI bi (inB T inp))) i), .ret, 113⟩ ⟨mkT [2] [.bool true], mkH (exI bi (inB T inp)), 50⟩ := by
      intro v hv
      subst hv
      refine ⟨_, _, _, rfl, by cases bi <;> rfl, ⟨rfl, trivial⟩, ?_⟩
      cases bi
      · exact trivial
      · exact ⟨bis_inB, trivial⟩
    cases hbi : bi with
    | false =>
      subst hbi
      have hL0 := hnil rfl
      subst hL0
      have eL := p6_ff m6 s.m k 0 C T inp 0 s.of ((7 * 0 + 6 : Nat) : Int) s.mark (pre48 m6 false (inB T inp))
      rw [decP_true ⟨rfl, pre6_has false (inB T inp), b⟩] at eL
      refine xwp_toEnd (E := E) (s := ⟨_, _, _⟩) cl_fin (fok FOK _) 1000 eL _ (last ?_) (hfin _ rfl)
      rw [hst1, show (IntKind.i64.wrap s.m.cd == 0) = true from hcode]; rfl
    | true =>
      subst hbi
      cases hLz : L with
      | zero =>
        subst hLz
        have eL := p6_tf m6 s.m k 0 C T inp 0 s.of ((7 * 0 + 6 : Nat) : Int) s.mark (pre48 m6 true (inB T inp))
        rw [decP_true ⟨rfl, pre6_has true (inB T inp), b⟩] at eL
        have g : ((decide (k + 0 ≤ T) && (List.range 0).all fun j => isU8 [Value.int IntKind.u8 (inp (k + j))]) && (s.m.st == 1 && IntKind.i64.wrap s.m.cd == ((0 : Nat) : Int).tmod 256) || !(s.m.st == 1 && IntKind.i64.wrap s.m.cd == ((0 : Nat) : Int).tmod 256)) = true := by
          rw [hst1, hcode, show decide (k + 0 ≤ T) = true by simp; omega]; rfl
        rw [g, cond_true, cond_true] at eL
        refine xwp_toEnd (E := E) (s := ⟨_, _, _⟩) cl_fin (fok FOK _) 1000 eL _ (last ?_) (hfin _ rfl)
        rw [hst1, hcode, hn7, show (ByteArray.mk (List.map (fun j => u8Of [Value.int IntKind.u8 (inp (k + j))]) (List.range 0)).toArray) = ByteArray.empty from rfl]
        simp
      | succ L' =>
        rw [← hLz]
        have hbo : bO L = true := by rw [hLz]; rfl
        rw [hbo] at b
        have eL := p6_tt m6 s.m k L C T inp L s.of ((7 * L + 6 : Nat) : Int) s.mark (pre48 m6 true (inB T inp))
        rw [decP_true ⟨rfl, pre6_has true (inB T inp), b⟩] at eL
        have g : (((decide (k + L ≤ T) && (List.range L).all fun j => isU8 [Value.int IntKind.u8 (inp (k + j))]) && (s.m.st == 1 && IntKind.i64.wrap s.m.cd == (L : Int).tmod 256) || !(s.m.st == 1 && IntKind.i64.wrap s.m.cd == (L : Int).tmod 256)) && ((decide (L ≤ L) && (List.range L).all fun j => isU8 [Value.int IntKind.u8 (s.of j)]) && (s.m.st == 1 && IntKind.i64.wrap s.m.cd == (L : Int).tmod 256) || !(s.m.st == 1 && IntKind.i64.wrap s.m.cd == (L : Int).tmod 256))) = true := by
          rw [hst1, hcode, all_u8 L fun j => inp (k + j), all_u8 L s.of, show decide (k + L ≤ T) = true by simp; omega, show decide (L ≤ L) = true by simp]; rfl
        rw [g, cond_true, cond_true] at eL
        refine xwp_toEnd (E := E) (s := ⟨_, _, _⟩) cl_fin (fok FOK _) 1000 eL _ (last ?_) (hfin _ rfl)
        rw [hst1, hcode, hn7]
        have hl : (List.map (fun j => u8Of [Value.int IntKind.u8 (s.of j)]) (List.range L)) = List.map (fun j => u8Of [Value.int IntKind.u8 (inp (k + j))]) (List.range L) := List.map_congr_left fun j hj => by
          rw [hofj j (List.mem_range.1 hj)]
        rw [hl]
        simp
end Go.X
