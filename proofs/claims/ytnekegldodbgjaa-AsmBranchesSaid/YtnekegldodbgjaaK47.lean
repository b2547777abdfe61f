import Derived.Test.YtnekegldodbgjaaK46
set_option linter.all false
namespace Go.X
open Go Go.Proofs
section
variable {E : FEnv} {Q : Post} (hP : E.P = Try.prog) (hn : E.B.n = 50) (hcl : Cl E.toEnv Q) (hfin : ∀ (e : Exit) (s : St), finP E.toEnv [(6, none)] [] (.bool true) [] 0 e s -> Q e s) {a b : Int} {k : Nat} (hk : k < 6)
include hP hn hcl hfin hk
theorem tail15 {bk : Bool} {n N : Nat} {I : Its} {L : List Ins} (ha : uB a = true) (hb : uB b = true) (he : asmE I 0 N = 0) (hw : asmW I 0 N = L.map encW) (h0 : 0 < L.length) (hl : L.length < 2000) (hN : N <= 2000) (hnn : n < 1500)
    (hs : ∃ s T, End15 (RSt.init (m15 L a b)) s T (tkF k a b) (bif tkF k a b || bk then 0 else (n : Int))) :
    XWP E.toEnv x15_68 Q ⟨mkT [16, 7, 8, 9, 10, 2] (sl60 N :: R15 a b (.ofNat (45 + k)) bk n), mkH [(60, itB8 I N)], 61⟩ := by
  have hF : FnsOK E.P (lookF FL) noSc := hP ▸ FOK
  have hlen : (asmW I 0 N).length = L.length := by rw [hw, List.length_map]
  obtain ⟨lm, hlm⟩ : ∃ lm, lm = (finA I 0 N).m := ⟨_, rfl⟩
  have A17 : AtN 17 [sl60 N, .int .i64 0] [(60, itB8 I N)] (.tuple ⟨[.slice (some ⟨61, 0, none⟩) L.length L.length, .map (some 62), .int .i64 0]⟩) (mkH [(61, wB0 L.length (wL L)), (62, lm.blk)]) 61 2 := by
    have h := c17_ok N N 0 I (by omega) he (fun h => by rw [h] at hlen; simp at hlen; omega) 60 61 (by omega) (o := true) (r := false) (fun _ _ => rfl)
    rw [hlen, hw] at h
    rw [hlm]
    exact ⟨rfl, h⟩
  have e36 := p15_36 a b (.ofNat (45 + k)) bk n N L.length I (wL L) lm
  rw [decP_true ⟨rfl, ⟨rfl, trivial⟩, A17⟩] at e36
  simp only [Bool.and_self, cond_true] at e36
  refine xwp_seqW (s := ⟨_, _, _⟩) hcl (fokE hP _) 1000 e36 rfl ⟨mkT [17, 19, 7, 8, 9, 10, 2] (sl60 L.length :: .int .i64 0 :: R15 a b (.ofNat (45 + k)) bk n), mkH [(60, wB0 L.length (wL L))], 130⟩
    ⟨_, [(60, wB0 L.length (wL L))], 130, rfl, by rw [hn]; rfl, by rw [hn]; exact ⟨rfl, rfl, rfl, rfl, rfl, rfl, rfl, trivial⟩, by rw [hn, hP]; exact ⟨bis_u32, trivial⟩⟩ ?_
  refine xwp_seqW (s := ⟨_, _, _⟩) hcl hF 1000 (p15_41 a b (.ofNat (45 + k)) bk n L.length (wL L)) rfl ⟨mkT [17, 7, 8, 9, 10, 2] (sl60 L.length :: R15 a b (.ofNat (45 + k)) bk n), mkH [(60, wB0 L.length (wL L))], 130⟩
    ⟨_, [(60, wB0 L.length (wL L))], 130, rfl, by rw [hn]; rfl, by rw [hn]; exact ⟨rfl, rfl, rfl, rfl, rfl, rfl, trivial⟩, by rw [hn, hP]; exact ⟨bis_u32, trivial⟩⟩ ?_
  have e42 := p15_42 a b (.ofNat (45 + k)) bk n L.length (4 * L.length + 64) (wL L) (mW (wL L) L.length (4 * L.length + 64))
  rw [wrap_i (n := 4 * (L.length : Int)) (by omega) (by omega), wrap_i (n := 4 * (L.length : Int) + 64) (by omega) (by omega), show 4 * (L.length : Int) + 64 = ((4 * L.length + 64 : Nat) : Int) by omega, decP_true ⟨rfl, ⟨rfl, trivial⟩, c15_22 (by omega)⟩, decP_true ⟨rfl, ⟨rfl, trivial⟩, c14_38 h0 (by omega)⟩] at e42
  simp only [Bool.and_self, cond_true] at e42
  have lfM : ∀ (m : MS) {ks : List Nat} {vs : List Value} {ts : List (Option (Bool × Value))} {ex : Exit} {k1 : Nat}, tsOK (stayOr 50 [(90, 90), (91, 91), (92, 92)]) ts vs -> LeafTo E ks ⟨ts, [(90, some m.memB), (91, some m.kn.blk), (92, some (m.mAt 90 91))], ex, k1⟩ ⟨mkT ks vs, mkH (m.HA 90 91 92), 130⟩ := fun m {ks vs ts ex k1} ht =>
    ⟨_, m.HA 90 91 92, 130, rfl, by rw [hn]; rfl, by rw [hn]; exact ht, by rw [hn, hP]; exact ⟨bis_mem, bis_kn, bis_mAt rfl rfl, trivial⟩⟩
  obtain ⟨m, hm⟩ : ∃ m, m = mW (wL L) L.length (4 * L.length + 64) := ⟨_, rfl⟩
  rw [<- hm] at e42
  refine xwp_seqW (s := ⟨_, _, _⟩) hcl (fokE hP _) 1000 e42 rfl ⟨mkT [20, 21, 7, 8, 9, 10, 2] (pAt 92 :: .int .i64 0 :: R15 a b (.ofNat (45 + k)) bk n), mkH (m.HA 90 91 92), 130⟩
    ⟨_, _, _, rfl, by rw [hn]; rfl, by rw [hn]; exact ⟨rfl, rfl, rfl, rfl, rfl, rfl, rfl, trivial⟩, by rw [hn, hP]; exact ⟨bis_mem, bis_kn, bis_mAt rfl rfl, trivial⟩⟩ ?_
  refine xwp_seqW (s := ⟨_, _, _⟩) hcl hF 1000 (p15_47 a b (.ofNat (45 + k)) bk n m) rfl ⟨mkT [20, 7, 8, 9, 10, 2] (pAt 92 :: R15 a b (.ofNat (45 + k)) bk n), mkH (m.HA 90 91 92), 130⟩ (lfM m ⟨rfl, rfl, rfl, rfl, rfl, rfl, trivial⟩) ?_
  refine xwp_seqW (s := ⟨_, _, _⟩) hcl hF 1000 (p15_48 a b (.ofNat (45 + k)) bk n m) rfl ⟨mkT [20, 7, 8, 9, 10, 2] (pAt 92 :: R15 a b (.ofNat (45 + k)) bk n), mkH ((setR m 5 a).HA 90 91 92), 130⟩ (lfM (setR m 5 a) ⟨rfl, rfl, rfl, rfl, rfl, rfl, trivial⟩) ?_
  refine xwp_seqW (s := ⟨_, _, _⟩) hcl hF 1000 (p15_49 a b (.ofNat (45 + k)) bk n (setR m 5 a)) rfl ⟨mkT [20, 7, 8, 9, 10, 2] (pAt 92 :: R15 a b (.ofNat (45 + k)) bk n), mkH ((setR (setR m 5 a) 6 b).HA 90 91 92), 130⟩ (lfM (setR (setR m 5 a) 6 b) ⟨rfl, rfl, rfl, rfl, rfl, rfl, trivial⟩) ?_
  obtain ⟨s, T, hs⟩ := hs
  have hokm : OKM (m15 L a b) := ok15 hl ha hb
  have hr : runM false (m15 L a b) 4000 = (s, T) := goes_end hs.go hs.st hs.le
  have A := c24_0 hokm (fuel := 4000) (by omega) hr
  rw [show bO s.oN = false by rw [hs.oN]; rfl] at A
  have hmm : setR (setR m 5 a) 6 b = m15 L a b := by rw [hm]
  rw [hmm]
  have e50 := p15_50 a b (.ofNat (45 + k)) bk n T (m15 L a b) s
  rw [decP_true ⟨rfl, ⟨rfl, rfl, rfl, trivial⟩, A⟩, hs.st, hs.cd] at e50
  simp only [Bool.and_self, cond_true] at e50
  obtain ⟨cd, hcd⟩ : ∃ cd, cd = (bif tkF k a b then (1 : Int) else 0) := ⟨_, rfl⟩
  have lfR : ∀ {ks : List Nat} {vs : List Value} {ts : List (Option (Bool × Value))} {ex : Exit} {k1 : Nat}, tsOK (stayOr 50 [(62, 62), (90, 90), (91, 91), (92, 92)]) ts vs -> LeafTo E ks ⟨ts, [(62, some (rB15 1 (bif tkF k a b then 1 else 0) s.mark T)), (90, some s.m.memB), (91, some s.m.kn.blk), (92, some (s.m.mAt 90 91))], ex, k1⟩ ⟨mkT ks vs, mkH ((62, rB15 1 (bif tkF k a b then 1 else 0) s.mark T) :: s.m.HA 90 91 92), 130⟩ := fun {ks vs ts ex k1} ht =>
    ⟨_, (62, rB15 1 (bif tkF k a b then 1 else 0) s.mark T) :: s.m.HA 90 91 92, 130, rfl, by rw [hn]; rfl, by rw [hn]; exact ht, by rw [hn, hP]; exact ⟨rfl, bis_mem, bis_kn, bis_mAt rfl rfl, trivial⟩⟩
  refine xwp_seqW (s := ⟨_, _, _⟩) hcl (fokE hP _) 1000 e50 rfl ⟨mkT [22, 20, 7, 8, 9, 10, 2] (pAt 62 :: pAt 92 :: R15 a b (.ofNat (45 + k)) bk n), mkH ((62, rB15 1 (bif tkF k a b then 1 else 0) s.mark T) :: s.m.HA 90 91 92), 130⟩
    ⟨_, _, _, rfl, by rw [hn]; rfl, by rw [hn]; exact ⟨rfl, rfl, rfl, rfl, rfl, rfl, rfl, trivial⟩, by rw [hn, hP]; exact ⟨rfl, bis_mem, bis_kn, bis_mAt rfl rfl, trivial⟩⟩ ?_
  refine xwp_seqW (s := ⟨_, _, _⟩) hcl hF 1000 (p15_51 a b bk n T s.m (bif tkF k a b then 1 else 0) s.mark k hk) rfl ⟨mkT [23, 22, 20, 10, 2] [.bool (tkF k a b), pAt 62, pAt 92, .bool bk, .int .i64 (n : Int)], mkH ((62, rB15 1 (bif tkF k a b then 1 else 0) s.mark T) :: s.m.HA 90 91 92), 130⟩ (lfR ⟨rfl, rfl, rfl, rfl, rfl, trivial⟩) ?_
  have e52 := p15_52 bk (tkF k a b) n T s.m (bif tkF k a b then 1 else 0) s.mark
  rw [show IntKind.u64.wrap (n : Int) = n by rw [u64w]; omega] at e52
  refine xwp_seqW (s := ⟨_, _, _⟩) hcl hF 1000 e52 rfl ⟨mkT [24, 23, 22, 20, 10] [.int .u64 (n : Int), .bool (tkF k a b), pAt 62, pAt 92, .bool bk], mkH ((62, rB15 1 (bif tkF k a b then 1 else 0) s.mark T) :: s.m.HA 90 91 92), 130⟩ (lfR ⟨rfl, rfl, rfl, rfl, rfl, trivial⟩) ?_
  refine xwp_seqW (s := ⟨_, _, _⟩) hcl hF 1000 (p15_56 bk (tkF k a b) n T s.m (bif tkF k a b then 1 else 0) s.mark) rfl ⟨mkT [24, 23, 22, 20] [.int .u64 (bif tkF k a b || bk then 0 else (n : Int)), .bool (tkF k a b), pAt 62, pAt 92], mkH ((62, rB15 1 (bif tkF k a b then 1 else 0) s.mark T) :: s.m.HA 90 91 92), 130⟩ (lfR ⟨rfl, rfl, rfl, rfl, trivial⟩) ?_
  have e58 := p15_58 (tkF k a b) T s.m (bif tkF k a b || bk then 0 else (n : Int)) s.mark
  rw [hs.x7, beq_self_eq_true] at e58
  exact xwp_toEnd (s := ⟨_, _, _⟩) hcl hF 1000 e58 ⟨mkT [6] [.bool true], mkH [], 50⟩ ⟨_, [], _, rfl, by rw [hn]; rfl, by rw [hn]; exact ⟨rfl, trivial⟩, trivial⟩ (hfin _ _ (fin_of rfl trivial (by rw [hn]) rfl))
theorem fw_tail {n : Nat} (ha : uB a = true) (hb : uB b = true) (hnn : n < 1500) :
    XWP E.toEnv x15_68 Q ⟨mkT [16, 7, 8, 9, 10, 2] (sl60 (n + 7) :: R15 a b (.ofNat (45 + k)) false n), mkH [(60, itB8 (itsR (fwG (.ofNat (45 + k)) (n + 1))) (n + 7))], 61⟩ := by
  have hq : 45 <= Int.ofNat (45 + k) /\ Int.ofNat (45 + k) <= 50 := by show (45 : Int) <= ((45 + k : Nat) : Int) /\ ((45 + k : Nat) : Int) <= 50; omega
  obtain ⟨v, hi, hv⟩ := fw_fin (q := .ofNat (45 + k)) n hnn
  have hL := fwL_ok hk hnn hv
  have hl := fwL_len v (.ofNat (45 + k)) n
  have hv2 : (bif v then 2 else 1) <= 2 /\ 1 <= (bif v then 2 else 1) := by cases v <;> decide
  obtain ⟨he, hw⟩ := asm_of (fw_check hq (M := n + 1) (by omega) (by omega)).1 hi hL (by omega)
  refine tail15 hP hn hcl hfin hk ha hb he hw (by omega) (by omega) (by omega) hnn ?_
  obtain ⟨s, T, h⟩ := fw_run hk hnn v hL (at15 _ a b)
  exact ⟨s, T, by rw [Bool.or_false]; exact h⟩
theorem bw_tail {n : Nat} (ha : uB a = true) (hb : uB b = true) (hnn : n < 1500) :
    XWP E.toEnv x15_68 Q ⟨mkT [16, 7, 8, 9, 10, 2] (sl60 (n + 9) :: R15 a b (.ofNat (45 + k)) true n), mkH [(60, itB8 (itsR (bwG (.ofNat (45 + k)) (n + 5))) (n + 9))], 61⟩ := by
  have hq : 45 <= Int.ofNat (45 + k) /\ Int.ofNat (45 + k) <= 50 := by show (45 : Int) <= ((45 + k : Nat) : Int) /\ ((45 + k : Nat) : Int) <= 50; omega
  obtain ⟨v, hi, hv⟩ := bw_fin (q := .ofNat (45 + k)) n hnn
  have hL := bwL_ok hk hnn hv
  have hl := bwL_len v (.ofNat (45 + k)) n
  have hv2 : (bif v then 2 else 1) <= 2 /\ 1 <= (bif v then 2 else 1) := by cases v <;> decide
  obtain ⟨he, hw⟩ := asm_of (bw_check hq (M := n + 5) (by omega) (by omega)).1 hi hL (by omega)
  refine tail15 hP hn hcl hfin hk ha hb he hw (by omega) (by omega) (by omega) hnn ?_
  obtain ⟨s, T, h⟩ := bw_run hk hnn v hL (at15 _ a b)
  exact ⟨s, T, by rw [Bool.or_true]; exact h⟩
end
theorem b15 {o a b n0 : Int} (ho : 0 <= o /\ o < 256) (ha : uB a = true) (hb : uB b = true) : Body Try.prog 15 [.int .u8 o, vP2 a b, .int .i64 n0] [] (.bool true) [] 50 0 := by
  refine body_of' mixed fx15 (by simp) fun E Q hP hn hcl hfin => ?_
  have hF : FnsOK E.P (lookF FL) noSc := hP ▸ FOK
  have ea := p15_a o a b n0
  obtain ⟨k, hk, hek⟩ : ∃ k : Nat, k < 6 /\ IntKind.i64.wrap ((IntKind.i64.wrap o).tmod 6 + 45) = .ofNat (45 + k) := by
    refine ⟨(o % 6).toNat, by omega, ?_⟩
    rw [wrap_i (n := o) (by omega) (by omega), Int.tmod_eq_emod_of_nonneg ho.1, wrap_i (by omega) (by omega)]
    show _ = ((45 + (o % 6).toNat : Nat) : Int)
    omega
  obtain ⟨n, hnn, hen⟩ : ∃ n : Nat, n < 1500 /\ IntKind.i64.wrap ((IntKind.u64.wrap n0).tmod 1500) = (n : Int) := by
    have h0 : 0 <= IntKind.u64.wrap n0 := by rw [u64w]; omega
    refine ⟨(IntKind.u64.wrap n0 % 1500).toNat, by omega, ?_⟩
    rw [Int.tmod_eq_emod_of_nonneg h0]
    rw [wrap_i (by omega) (by omega)]
    omega
  rw [hek, hen] at ea
  obtain ⟨bk, hbk⟩ : ∃ bk, bk = decide (o >= 128) := ⟨_, rfl⟩
  rw [<- hbk] at ea
  obtain ⟨q, hq⟩ : ∃ q, q = Int.ofNat (45 + k) := ⟨_, rfl⟩
  rw [<- hq] at ea
  refine xwp_toLoop (s := ⟨_, _, _⟩) (fokE hP _) 1000 ea (S15 a b q bk n 0) ⟨_, [], 61, rfl, by rw [hn]; rfl, by rw [hn]; exact ⟨rfl, rfl, rfl, rfl, rfl, rfl, rfl, trivial⟩, trivial⟩ ?_
  have bgo : ∀ {σ : Nm}, BIs Try.prog σ (goB q) (goB q) := rfl
  have bst : ∀ {σ : Nm}, BIs Try.prog σ stp2 (.rows 2 8 stR false false) := bis_row2 (I := itsR fwC) st_rows
  have bst' : ∀ {σ : Nm}, BIs Try.prog σ stp2 stp2 := bis_row2 (I := itsR fwC) fun _ _ => rfl
  have ben : ∀ {σ : Nm}, BIs Try.prog σ enp4 (.rows 4 8 edR true false) := bis_row2 (I := itsR fun j => fwC (2 + j)) ed_rows
  have ben' : ∀ {σ : Nm}, BIs Try.prog σ enp4 enp4 := bis_row2 (I := itsR fun j => fwC (2 + j)) fun _ _ => rfl
  have bga : ∀ {σ : Nm} {i : Nat}, BIs Try.prog σ (gB i) (gB i) := bis_row2 (I := itsR fun _ => gI) fun _ _ => rfl
  refine xwp_loopR (ι := Nat) (S15 a b q bk n) (fun i => i <= n) (fun i => n - i) 0 (Nat.zero_le _) fun i hi => ?_
  have hcr := cl_round (S := S15 a b q bk n) (I := fun i => i <= n) (μ := fun i => n - i) (i := i) (cl_ctx hcl [.bl 0, .sq x15_73])
  match i, hi with
  | 0, _ =>
    by_cases h0 : 0 < n
    · have e := p15_n a b q bk n
      rw [decide_eq_true (show (0 : Int) < n by omega), cond_true] at e
      exact xwp_toEnd (s := S15 a b q bk n 0) hcr hF 1000 e (S15 a b q bk n 1) ⟨_, [(60, gB 1)], 61, rfl, by rw [hn]; rfl, by rw [hn]; exact ⟨rfl, rfl, rfl, rfl, rfl, rfl, rfl, trivial⟩, by rw [hn, hP]; exact ⟨bis_row2 (I := itsR fun _ => gI) gB_1, trivial⟩⟩ ⟨1, by omega, by simp only; omega, Wk.refl _ _⟩
    · have hz : n = 0 := by omega
      subst hz
      have e := p15_m a b q bk 0
      rw [decide_eq_false (show ¬ (0 : Int) < ((0 : Nat) : Int) by omega), cond_false] at e
      refine xwp_toEnd (s := S15 a b q bk 0 0) hcr hF 1000 e (S15 a b q bk 0 0) ⟨_, [], 61, rfl, by rw [hn]; rfl, by rw [hn]; exact ⟨rfl, rfl, rfl, rfl, rfl, rfl, rfl, trivial⟩, trivial⟩ ?_
      show XWP E.toEnv x15_73 Q (S15 a b q bk 0 0)
      refine xwp_seqW (s := S15 a b q bk 0 0) hcl hF 1000 (p15_23n a b q bk 0 0) rfl ⟨mkT [13, 11, 7, 8, 9, 10, 2] (pGo :: .slice none 0 0 :: R15 a b q bk 0), mkH [(61, goB q)], 62⟩
        ⟨_, [(61, goB q)], 62, rfl, by rw [hn]; rfl, by rw [hn]; exact ⟨rfl, rfl, rfl, rfl, rfl, rfl, rfl, trivial⟩, by rw [hn, hP]; exact ⟨bgo, trivial⟩⟩ ?_
      refine xwp_seqW (s := ⟨_, _, _⟩) hcl hF 1000 (p15_24n a b q bk 0) rfl ⟨mkT [14, 13, 11, 7, 8, 9, 10, 2] (sSt :: pGo :: .slice none 0 0 :: R15 a b q bk 0), mkH [(62, stp2), (61, goB q)], 63⟩
        ⟨_, [(62, stp2), (61, goB q)], 63, rfl, by rw [hn]; rfl, by rw [hn]; exact ⟨rfl, rfl, rfl, rfl, rfl, rfl, rfl, rfl, trivial⟩, by rw [hn, hP]; exact ⟨bst, bgo, trivial⟩⟩ ?_
      refine xwp_seqW (s := ⟨_, _, _⟩) hcl hF 1000 (p15_25n a b q bk 0) rfl ⟨mkT [15, 14, 13, 11, 7, 8, 9, 10, 2] (sEn :: sSt :: pGo :: .slice none 0 0 :: R15 a b q bk 0), mkH (h15 q ++ []), 64⟩
        ⟨_, h15 q, 64, rfl, by rw [hn]; rfl, by rw [hn]; exact ⟨rfl, rfl, rfl, rfl, rfl, rfl, rfl, rfl, rfl, trivial⟩, by rw [hn, hP]; exact ⟨ben, bst', bgo, trivial⟩⟩ ?_
      refine xwp_seqW (s := ⟨_, _, _⟩) hcl hF 1000 (p15_26n a b q bk 0) rfl ⟨mkT [16, 15, 14, 13, 11, 7, 8, 9, 10, 2] (.slice none 0 0 :: sEn :: sSt :: pGo :: .slice none 0 0 :: R15 a b q bk 0), mkH (h15 q ++ []), 64⟩
        ⟨_, h15 q, 64, rfl, by rw [hn]; rfl, by rw [hn]; exact ⟨rfl, rfl, rfl, rfl, rfl, rfl, rfl, rfl, rfl, rfl, trivial⟩, by rw [hn, hP]; exact ⟨ben', bst', bgo, trivial⟩⟩ ?_
      cases bk with
      | false =>
        refine xwp_seqW (s := ⟨_, _, _⟩) hcl hF 1000 (p15_35nf a b q) rfl ⟨mkT [16, 7, 8, 9, 10, 2] (sl60 7 :: R15 a b q false 0), mkH [(60, itB8 (itsR (fwG q 1)) 7)], 61⟩
          ⟨_, [(60, itB8 (itsR (fwG q 1)) 7)], 61, rfl, by rw [hn]; rfl, by rw [hn]; exact ⟨rfl, rfl, rfl, rfl, rfl, rfl, trivial⟩, by rw [hn, hP]; exact ⟨bis_row2 (fw_rows0 q), trivial⟩⟩ ?_
        subst hq
        exact fw_tail hP hn hcl hfin hk ha hb hnn
      | true =>
        refine xwp_seqW (s := ⟨_, _, _⟩) hcl hF 1000 (p15_35nb a b q) rfl ⟨mkT [16, 7, 8, 9, 10, 2] (sl60 9 :: R15 a b q true 0), mkH [(60, itB8 (itsR (bwG q 5)) 9)], 61⟩
          ⟨_, [(60, itB8 (itsR (bwG q 5)) 9)], 61, rfl, by rw [hn]; rfl, by rw [hn]; exact ⟨rfl, rfl, rfl, rfl, rfl, rfl, trivial⟩, by rw [hn, hP]; exact ⟨bis_row2 (bw_rows0 q), trivial⟩⟩ ?_
        subst hq
        exact bw_tail hP hn hcl hfin hk ha hb hnn
  | i + 1, hi =>
    have e := p15_b a b q bk n (i + 1)
    by_cases hlt : i + 1 < n
    · rw [decide_eq_true (show ((i + 1 : Nat) : Int) < n by omega), gg_ok (by omega) (by omega), wrap_i (n := ((i + 1 : Nat) : Int) + 1) (by omega) (by omega)] at e
      simp only [Bool.and_self, cond_true] at e
      exact xwp_toEnd (s := S15 a b q bk n (i + 1)) hcr hF 1000 e (S15 a b q bk n (i + 1 + 1)) ⟨_, [(60, gB (i + 1 + 1))], 61, rfl, by rw [hn]; rfl, by rw [hn]; exact ⟨rfl, rfl, rfl, rfl, rfl, rfl, rfl, trivial⟩, by rw [hn, hP]; exact ⟨bis_row2 (I := itsR fun _ => gI) (gB_s (i + 1)), trivial⟩⟩ ⟨i + 1 + 1, hlt, by simp only; omega, Wk.refl _ _⟩
    · have hz : n = i + 1 := by omega
      subst hz
      rw [decide_eq_false (show ¬ ((i + 1 : Nat) : Int) < ((i + 1 : Nat) : Int) by omega), cond_false] at e
      refine xwp_toEnd (s := S15 a b q bk (i + 1) (i + 1)) hcr hF 1000 e (S15 a b q bk (i + 1) (i + 1)) ⟨_, [(60, gB (i + 1))], 61, rfl, by rw [hn]; rfl, by rw [hn]; exact ⟨rfl, rfl, rfl, rfl, rfl, rfl, rfl, trivial⟩, by rw [hn, hP]; exact ⟨bga, trivial⟩⟩ ?_
      show XWP E.toEnv x15_73 Q (S15 a b q bk (i + 1) (i + 1))
      refine xwp_seqW (s := S15 a b q bk (i + 1) (i + 1)) hcl hF 1000 (p15_23g a b q bk (i + 1) (i + 1)) rfl ⟨mkT [13, 11, 7, 8, 9, 10, 2] (pGo :: sl60 (i + 1) :: R15 a b q bk (i + 1)), mkH [(61, goB q), (60, gB (i + 1))], 62⟩
        ⟨_, [(61, goB q), (60, gB (i + 1))], 62, rfl, by rw [hn]; rfl, by rw [hn]; exact ⟨rfl, rfl, rfl, rfl, rfl, rfl, rfl, trivial⟩, by rw [hn, hP]; exact ⟨bgo, bga, trivial⟩⟩ ?_
      refine xwp_seqW (s := ⟨_, _, _⟩) hcl hF 1000 (p15_24g a b q bk (i + 1)) rfl ⟨mkT [14, 13, 11, 7, 8, 9, 10, 2] (sSt :: pGo :: sl60 (i + 1) :: R15 a b q bk (i + 1)), mkH [(62, stp2), (61, goB q), (60, gB (i + 1))], 63⟩
        ⟨_, [(62, stp2), (61, goB q), (60, gB (i + 1))], 63, rfl, by rw [hn]; rfl, by rw [hn]; exact ⟨rfl, rfl, rfl, rfl, rfl, rfl, rfl, rfl, trivial⟩, by rw [hn, hP]; exact ⟨bst, bgo, bga, trivial⟩⟩ ?_
      refine xwp_seqW (s := ⟨_, _, _⟩) hcl hF 1000 (p15_25g a b q bk (i + 1)) rfl ⟨mkT [15, 14, 13, 11, 7, 8, 9, 10, 2] (sEn :: sSt :: pGo :: sl60 (i + 1) :: R15 a b q bk (i + 1)), mkH (h15 q ++ [(60, gB (i + 1))]), 64⟩
        ⟨_, h15 q ++ [(60, gB (i + 1))], 64, rfl, by rw [hn]; rfl, by rw [hn]; exact ⟨rfl, rfl, rfl, rfl, rfl, rfl, rfl, rfl, rfl, trivial⟩, by rw [hn, hP]; exact ⟨ben, bst', bgo, bga, trivial⟩⟩ ?_
      refine xwp_seqW (s := ⟨_, _, _⟩) hcl hF 1000 (p15_26g a b q bk (i + 1)) rfl ⟨mkT [16, 15, 14, 13, 11, 7, 8, 9, 10, 2] (.slice none 0 0 :: sEn :: sSt :: pGo :: sl60 (i + 1) :: R15 a b q bk (i + 1)), mkH (h15 q ++ [(60, gB (i + 1))]), 64⟩
        ⟨_, h15 q ++ [(60, gB (i + 1))], 64, rfl, by rw [hn]; rfl, by rw [hn]; exact ⟨rfl, rfl, rfl, rfl, rfl, rfl, rfl, rfl, rfl, rfl, trivial⟩, by rw [hn, hP]; exact ⟨ben', bst', bgo, bga, trivial⟩⟩ ?_
      cases bk with
      | true =>
        have e35 := p15_35gb a b q (i + 1)
        rw [gg_ok (by omega) (by omega), gg_ok (by omega) (by omega), show Nat.ble (5 + (i + 1)) 5 = false by rw [ble_dec]; simp, show Nat.ble (0 + (i + 1)) (i + 1) = true by rw [ble_dec]; simp, decide_eq_true (show (5 + (i + 1)) * 89 <= 1099511627776 by omega)] at e35
        simp only [Bool.and_self, Bool.not_false, cond_true] at e35
        rw [show 5 + (i + 1) + 2 + 2 = i + 1 + 9 by omega] at e35
        refine xwp_seqW (s := ⟨_, _, _⟩) hcl hF 1000 e35 rfl ⟨mkT [16, 7, 8, 9, 10, 2] (sl60 (i + 1 + 9) :: R15 a b q true (i + 1)), mkH [(60, itB8 (itsR (bwG q (i + 1 + 5))) (i + 1 + 9))], 61⟩
          ⟨_, [(60, itB8 (itsR (bwG q (i + 1 + 5))) (i + 1 + 9))], 61, rfl, by rw [hn]; rfl, by rw [hn]; exact ⟨rfl, rfl, rfl, rfl, rfl, rfl, trivial⟩, by rw [hn, hP]; exact ⟨bis_row2 (bw_rows q (i + 1)), trivial⟩⟩ ?_
        subst hq
        exact bw_tail hP hn hcl hfin hk ha hb hnn
      | false =>
        match i, hnn with
        | 0, hnn =>
          refine xwp_seqW (s := ⟨_, _, _⟩) hcl hF 1000 (p15_35of a b q) rfl ⟨mkT [16, 7, 8, 9, 10, 2] (sl60 8 :: R15 a b q false 1), mkH [(60, itB8 (itsR (fwG q (1 + 1))) 8)], 61⟩
            ⟨_, [(60, itB8 (itsR (fwG q (1 + 1))) 8)], 61, rfl, by rw [hn]; rfl, by rw [hn]; exact ⟨rfl, rfl, rfl, rfl, rfl, rfl, trivial⟩, by rw [hn, hP]; exact ⟨bis_row2 (fw_rows q 1), trivial⟩⟩ ?_
          subst hq
          exact fw_tail hP hn hcl hfin hk ha hb hnn
        | i + 1, hnn =>
          have e35 := p15_35tf a b q i
          rw [gg_ok (by omega) (by omega), gg_ok (by omega) (by omega), show Nat.ble (0 + (i + 2)) (i + 2) = true by rw [ble_dec]; simp, decide_eq_true (show (1 + (i + 2)) * 89 <= 1099511627776 by omega)] at e35
          simp only [Bool.and_self, cond_true] at e35
          rw [show 1 + (i + 2) + 2 + 4 = i + 2 + 7 by omega] at e35
          refine xwp_seqW (s := ⟨_, _, _⟩) hcl hF 1000 e35 rfl ⟨mkT [16, 7, 8, 9, 10, 2] (sl60 (i + 2 + 7) :: R15 a b q false (i + 2)), mkH [(60, itB8 (itsR (fwG q (i + 2 + 1))) (i + 2 + 7))], 61⟩
            ⟨_, [(60, itB8 (itsR (fwG q (i + 2 + 1))) (i + 2 + 7))], 61, rfl, by rw [hn]; rfl, by rw [hn]; exact ⟨rfl, rfl, rfl, rfl, rfl, rfl, trivial⟩, by rw [hn, hP]; exact ⟨bis_row2 (fw_rows q (i + 2)), trivial⟩⟩ ?_
          subst hq
          exact fw_tail hP hn hcl hfin hk ha hb hnn
end Go.X
