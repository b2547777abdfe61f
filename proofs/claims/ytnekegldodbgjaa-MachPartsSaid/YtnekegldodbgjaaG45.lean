import Derived.Test.YtnekegldodbgjaaG44
set_option linter.all false
namespace Go.X
open Go Go.Proofs
theorem setM_ok {m : MS} (h : OKM m) {k v : Int} (hv : uB v = true) : OKM (setM m k v) := by
  unfold setM
  cases inK k with
  | false => exact h
  | true => exact ⟨h.sz, h.pl, fun j => by show uB (bif Nat.beq (j + 1) (1 + k.toNat * 1) then v else m.x j) = true; cases Nat.beq (j + 1) (1 + k.toNat * 1); exact h.x j; exact hv, h.kn⟩
theorem setsM_ok {m : MS} (h : OKM m) {rg : Nat -> Int} : ∀ {R : Nat}, (∀ j, j < R -> uB (rg j) = true) -> OKM (setsM m rg R)
  | 0, _ => h
  | R + 1, hr => setM_ok (setsM_ok h fun j hj => hr j (by omega)) (hr R (by omega))
theorem newM_ok {k L sz : Nat} {inp : Nat -> Int} (h : szB sz = true) : OKM (newM k L inp sz) := ⟨h, rfl, fun _ => rfl, fun w h => by cases h⟩
theorem stepF_oN (w : Bool) (s : RSt) : (stepF (e0 w) s).2.oN <= s.oN + 1 := by
  unfold stepF stepG
  cases plB s.m.sz s.m.pl 4 with
  | false => exact Nat.le_succ _
  | true =>
    simp only [cond_true]
    cases (decA (w32 s.m)).err == 0 with
    | false => exact Nat.le_succ _
    | true =>
      simp only [cond_true]
      cases plainB (decA (w32 s.m)).q with
      | true => exact Nat.le_succ _
      | false =>
        simp only [cond_false]
        cases (decA (w32 s.m)).q == 55 with
        | true =>
          simp only [cond_true]
          unfold callR
          cases s.m.x 17 == 1 <;> cases s.m.x 17 == 2 <;> cases (s.m.x 17 == 3 || (s.m.x 17 == 4 || s.m.x 17 == 5)) <;> first | exact Nat.le_succ _ | exact Nat.le_refl _
        | false =>
          simp only [cond_false]
          unfold memF
          cases plB s.m.sz (atM s.m (decA (w32 s.m)).c) (sizeF (decA (w32 s.m)).q) <;> exact Nat.le_succ _
theorem run_oN (w : Bool) : ∀ (k n : Nat) (s : RSt), (runF (stepF (e0 w)) k s n).1.oN <= s.oN + k
  | 0, n, s => Nat.le_refl _
  | k + 1, n, s => by
    cases h0 : s.m.st == 0 with
    | false => rw [runF_end h0]; exact Nat.le_add_right _ _
    | true =>
      have hm := stepF_oN w s
      obtain ⟨ok, s', hs⟩ : ∃ ok s', stepF (e0 w) s = (ok, s') := ⟨_, _, rfl⟩
      rw [hs] at hm
      simp only at hm
      cases ok with
      | false => rw [runF_no h0 hs]; show s'.oN <= _; omega
      | true => rw [runF_go h0 hs]; have := run_oN w k (n + 1) s'; omega
theorem run_sN (w : Bool) : ∀ (k n : Nat) (s : RSt), (runF (stepF (e0 w)) k s n).1.sN <= s.sN + k
  | 0, n, s => Nat.le_refl _
  | k + 1, n, s => by
    cases h0 : s.m.st == 0 with
    | false => rw [runF_end h0]; exact Nat.le_add_right _ _
    | true =>
      have hm := stepF_sN (e0 w) s
      obtain ⟨ok, s', hs⟩ : ∃ ok s', stepF (e0 w) s = (ok, s') := ⟨_, _, rfl⟩
      rw [hs] at hm
      simp only at hm
      cases ok with
      | false => rw [runF_no h0 hs]; show s'.sN <= _; omega
      | true => rw [runF_go h0 hs]; have := run_sN w k (n + 1) s'; omega
theorem vOa_pred (r n : Nat) : vOa r (bO n) n = vOa r (bO n) (n - 1 + 1) := by cases n <;> rfl
theorem exO_pred (r n : Nat) (f : Nat -> List Value) : exO r (bO n) (seB n f) = exO r (bO n) (seB (n - 1 + 1) f) := by cases n <;> rfl
theorem bO_pred (n : Nat) : (bif bO n then n - 1 + 1 else 0) = n := by cases n <;> rfl
theorem bO_add (a b : Nat) : bO (a + b) = (bO a || bO b) := by cases a <;> cases b <;> simp [bO, Nat.add_succ, Nat.succ_add] <;> rfl
theorem kB_true (b : Bool) (o : Nat) (f : Nat -> Int) : kB b o f = true := by cases b; rfl; exact okO_true o f
theorem strB_size (o : Nat) (f : Nat -> Int) : (strB (bO o) o f).size = o := by
  cases o with
  | zero => rfl
  | succ o => show ((List.map _ (List.range (o + 1))).toArray).size = o + 1; simp
theorem strB_val (o : Nat) (f : Nat -> Int) : strB (bO o) o f = ByteArray.mk (List.map (fun j => u8Of [Value.int IntKind.u8 (f (0 + j))]) (List.range o)).toArray := by
  cases o with
  | zero => rfl
  | succ o => rfl
theorem strB_add {oX oY : Nat} {fA fX fY : Nat -> Int} (h : ∀ j, j < oX + oY -> fA j = bif Nat.blt j oX then fX j else fY (j - oX)) :
    strB (bO (oX + oY)) (oX + oY) fA = strB (bO oX) oX fX ++ strB (bO oY) oY fY := by
  rw [strB_val, strB_val, strB_val]
  apply ByteArray.ext
  rw [ByteArray.data_append]
  simp only [Nat.zero_add]
  rw [List.range_add, List.map_append, List.append_toArray]
  congr 2
  · exact List.map_congr_left fun j hj => by
      have hj := List.mem_range.1 hj
      rw [h j (by omega), lt_blt hj]; rfl
  · rw [List.map_map]
    exact List.map_congr_left fun j hj => by
      have hj := List.mem_range.1 hj
      show u8Of [Value.int IntKind.u8 (fA (oX + j))] = _
      rw [h (oX + j) (by omega), blt_ff (by omega), Nat.add_sub_cancel_left]; rfl
theorem q8c54_true {e1 e2 e3 e4 d kX kY kA : Bool} (h1 : e1 = true) (h2 : e2 = true) (h3 : e3 = true) (h4 : e4 = true) (h5 : d = true) (h6 : kX = true) (h7 : kY = true) (h8 : kA = true) : q8c54 e1 e2 e3 e4 d kX kY kA = true := by
  subst h1; subst h2; subst h3; subst h4; subst h5; subst h6; subst h7; subst h8; rfl
theorem v54_true {e1 e2 e3 e4 s : Bool} (h1 : e1 = true) (h2 : e2 = true) (h3 : e3 = true) (h4 : e4 = true) (h5 : s = true) : v54 e1 e2 e3 e4 s = true := by
  subst h1; subst h2; subst h3; subst h4; subst h5; rfl
theorem tail8 {E : FEnv} {Q : Post} (hP : E.P = Try.prog) (hn : E.B.n = 50) (hcl : Cl E.toEnv Q) (hfin : ∀ e s, finP E.toEnv [(6, none)] [] (.bool true) [] 0 e s -> Q e s) {a b : Nat} {m : MS} (hm : OKM m) (ha : a < 256) (hb : b < 256) :
    XWP E.toEnv x8_59 Q ⟨mkT [5, 7] v8_0, mkH (h8_0 (a : Int) (b : Int) m), 130⟩ := by
  obtain ⟨al, na, hal⟩ : ∃ s n, runM false m (a + b) = (s, n) := ⟨_, _, rfl⟩
  obtain ⟨x, nx, hx⟩ : ∃ s n, runM true m a = (s, n) := ⟨_, _, rfl⟩
  obtain ⟨y, ny, hy⟩ : ∃ s n, runM true x.m b = (s, n) := ⟨_, _, rfl⟩
  obtain ⟨z, nz, hz⟩ : ∃ s n, runM true m (a + b) = (s, n) := ⟨_, _, rfl⟩
  have hxm : OKM x.m := by have := (runM_ok (wt := true) hm (fuel := a) (by omega)).1; rw [hx] at this; exact this
  have hs1 : ∀ {σ : Nm}, BIs Try.prog σ (seB x.sN x.sf) (seB x.sN x.sf) := by
    have := (runM_ok (wt := true) hm (fuel := a) (by omega)).2; rw [hx] at this; exact fun {σ} => bis_seB fun j hj => this j hj _
  have hs2 : ∀ {σ : Nm}, BIs Try.prog σ (seB y.sN y.sf) (seB y.sN y.sf) := by
    have := (runM_ok (wt := true) hxm (fuel := b) (by omega)).2; rw [hy] at this; exact fun {σ} => bis_seB fun j hj => this j hj _
  have hs3 : ∀ {σ : Nm}, BIs Try.prog σ (seB z.sN z.sf) (seB z.sN z.sf) := by
    have := (runM_ok (wt := true) hm (fuel := a + b) (by omega)).2; rw [hz] at this; exact fun {σ} => bis_seB fun j hj => this j hj _
  have P := parts hal hx hy hz
  have hq : SeQ z.sN z.sf := by have := run_seQ true (a + b) 0 (RSt.init m) (fun j hj => absurd hj (Nat.not_lt_zero _)); rw [show runF (stepF (e0 true)) (a + b) (RSt.init m) 0 = (z, nz) from hz] at this; exact this
  have lx : x.oN <= a /\ x.sN <= a := by
    have h1 := run_oN true a 0 (RSt.init m); have h2 := run_sN true a 0 (RSt.init m)
    rw [show runF (stepF (e0 true)) a (RSt.init m) 0 = (x, nx) from hx] at h1 h2; simp only at h1 h2
    have e1 : (RSt.init m).oN = 0 := rfl; have e2 : (RSt.init m).sN = 0 := rfl; rw [e1] at h1; rw [e2] at h2; exact ⟨by omega, by omega⟩
  have ly : y.oN <= b /\ y.sN <= b := by
    have h1 := run_oN true b 0 (RSt.init x.m); have h2 := run_sN true b 0 (RSt.init x.m)
    rw [show runF (stepF (e0 true)) b (RSt.init x.m) 0 = (y, ny) from hy] at h1 h2; simp only at h1 h2
    have e1 : (RSt.init x.m).oN = 0 := rfl; have e2 : (RSt.init x.m).sN = 0 := rfl; rw [e1] at h1; rw [e2] at h2; exact ⟨by omega, by omega⟩
  have lna : na <= a + b := by
    have h1 := runF_le (step := stepF (e0 false)) (a + b) 0 (RSt.init m)
    rw [show runF (stepF (e0 false)) (a + b) (RSt.init m) 0 = (al, na) from hal] at h1
    simpa using h1
  have wa : IntKind.i64.wrap (a : Int) = (a : Int) := wrap_i (by omega) (by omega)
  have wb : IntKind.i64.wrap (b : Int) = (b : Int) := wrap_i (by omega) (by omega)
  have wab : IntKind.i64.wrap (IntKind.i64.wrap (a : Int) + IntKind.i64.wrap (b : Int)) = ((a + b : Nat) : Int) := by rw [wa, wb, wrap_i (by omega) (by omega)]; omega
  have b01 : bO al.oN = (bO x.oN || bO y.oN) := by rw [P.o1, bO_add]
  have sz : bO z.sN = (bO x.sN || bO y.sN) := by rw [P.s1, bO_add]
  have A0 := c24_0 hm (fuel := a + b) (by omega) hal
  have A1 := c27_1 hm (fuel := a) (by omega) hx
  have A2 := c27_1 hxm (fuel := b) (by omega) hy
  have A3 := c27_2 hm (fuel := a + b) (by omega) hz
  rw [<- P.o2, sz] at A3
  show XWP E.toEnv (.seq (.region x8_44) x8_58) Q _
  refine t8_44 (x := x) (y := y) (z := z) hP hn hcl hs1 hs2 hs3 wab A0 ?_
  show XWP E.toEnv (.seq (.region x8_45) x8_57) Q _
  refine t8_45 (y := y) (z := z) hP hn hcl hs1 hs2 hs3 wa A1 ?_
  show XWP E.toEnv (.seq (.region x8_46) x8_56) Q _
  refine t8_46 (z := z) hP hn hcl hs1 hs2 hs3 wb A2 ?_
  show XWP E.toEnv (.seq (.region x8_47) x8_55) Q _
  refine t8_47 hP hn hcl hs1 hs2 hs3 wab (by rw [P.o2] at A3 ⊢; exact A3) ?_
  show XWP E.toEnv (.seq x8_52 x8_54) Q _
  have e := p8_52 (a : Int) (b : Int) al.m x.m al.oN x.oN y.oN al.of x.of y.of z.of na nx ny al.mark x.mark y.mark (x.sN - 1) (y.sN - 1) z.sN x.sf y.sf z.sf (bO x.oN) (bO y.oN) (bO x.sN) (bO y.sN)
  rw [d28_true P.of2, d29_true (fun _ => by rw [bO_pred, bO_pred]; exact P.s1) (by have := P.s1; omega) hq (fun j hj => by rw [bO_pred]; exact P.sf1 j hj), q8c52_true (by omega) (by omega)] at e
  simp only [cond_true, show (al.m.pl != al.m.pl) = false by simp, cond_false] at e
  rw [<- vOa_pred, <- vOa_pred, <- exO_pred, <- exO_pred, <- b01] at e
  have hh : h8_4 (a : Int) (b : Int) al x y z na nx ny nz (bO al.oN) (bO x.oN) (bO y.oN) (bO x.sN) (bO y.sN) = (rO 70 71 (bO al.oN) al.m al.oN z.of na al.mark ++ (exO 72 (bO x.sN || bO y.sN) (seB z.sN z.sf) ++ (al.m.HA 96 97 98 ++ (rO 67 68 (bO y.oN) al.m y.oN y.of ny y.mark ++ (exO 69 (bO y.sN) (seB y.sN y.sf) ++ (al.m.HA 93 94 95 ++ (rO 64 65 (bO x.oN) x.m x.oN x.of nx x.mark ++ (exO 66 (bO x.sN) (seB x.sN x.sf) ++ (rO 62 63 (bO al.oN) al.m al.oN al.of na al.mark ++ (al.m.HA 90 91 92 ++ bx8 (a : Int) (b : Int))))))))))) := by
    unfold h8_4 r8O
    rw [<- P.m1, <- P.m2, <- P.o2, <- P.mk2, <- P.n2]
  rw [hh]
  have hlf : ∀ (c1 c2 : Bool), c1 = bO x.oN -> c2 = bO y.oN -> XWP E.toEnv (.seq x8_52 x8_54) Q ⟨mkT [18, 19, 16, 17, 14, 15, 13, 5, 7] (v8_4 x y z (bO x.sN) (bO y.sN)), mkH (rO 70 71 (c1 || c2) al.m al.oN z.of na al.mark ++ (exO 72 (bO x.sN || bO y.sN) (seB z.sN z.sf) ++ (al.m.HA 96 97 98 ++ (rO 67 68 c2 al.m y.oN y.of ny y.mark ++ (exO 69 (bO y.sN) (seB y.sN y.sf) ++ (al.m.HA 93 94 95 ++ (rO 64 65 c1 x.m x.oN x.of nx x.mark ++ (exO 66 (bO x.sN) (seB x.sN x.sf) ++ (rO 62 63 (c1 || c2) al.m al.oN al.of na al.mark ++ (al.m.HA 90 91 92 ++ bx8 (a : Int) (b : Int))))))))))), 130⟩ := by
    intro c1 c2 h1 h2
    rw [b01, <- h1, <- h2] at e
    refine xwp_seqW (s := ⟨_, _, _⟩) hcl (fokE hP _) 1000 e rfl ⟨mkT [16, 14, 13] [pAt 67, pAt 64, pAt 62], mkH (rO 67 68 c2 al.m y.oN y.of ny y.mark ++ (rO 64 65 c1 x.m x.oN x.of nx x.mark ++ rO 62 63 (c1 || c2) al.m al.oN al.of na al.mark)), 130⟩ ⟨_, _, _, rfl, ?_, ?_, ?_⟩ ?_
    · rw [hn]; cases c1 <;> cases c2 <;> cases bO x.sN <;> cases bO y.sN <;> rfl
    · rw [hn]; cases c1 <;> cases c2 <;> cases bO x.sN <;> cases bO y.sN <;> exact ⟨rfl, rfl, rfl, trivial⟩
    · rw [hn, hP]
      clear h1 h2 e
      cases bO x.sN <;> cases bO y.sN <;> cases c1 <;> cases c2
      all_goals first
        | exact ⟨bis_resO (fun h => by cases h), bis_resO (fun h => by cases h), bis_resO (fun h => by cases h), trivial⟩
        | exact ⟨bis_resO (fun _ => rfl), bis_outB, bis_resO (fun h => by cases h), bis_resO (fun _ => rfl), bis_outB, trivial⟩
        | exact ⟨bis_resO (fun h => by cases h), bis_resO (fun _ => rfl), bis_outB, bis_resO (fun _ => rfl), bis_outB, trivial⟩
        | exact ⟨bis_resO (fun _ => rfl), bis_outB, bis_resO (fun _ => rfl), bis_outB, bis_resO (fun _ => rfl), bis_outB, trivial⟩
    · have e2 := p8_54 al.m x.m al.oN x.oN y.oN al.of x.of y.of na nx ny al.mark x.mark y.mark c1 c2
      have g3 : ((na : Int) == IntKind.i64.wrap ((nx : Int) + (ny : Int))) = true := by
        have := P.n1
        rw [wrap_i (by omega) (by omega)]; simp; omega
      have g4 : (al.mark == IntKind.i64.wrap (x.mark + y.mark)) = true := by rw [<- P.mk1]; simp
      have g5 : decide ((strB c1 x.oN x.of).size + (strB c2 y.oN y.of).size <= 9223372036854775807) = true := by
        rw [h1, h2, strB_size, strB_size]; exact decide_eq_true (by omega)
      have g6 : ((strB (c1 || c2) al.oN al.of).toList == (strB c1 x.oN x.of ++ strB c2 y.oN y.of).toList) = true := by
        rw [h1, h2, <- strB_add (fA := al.of) (fun j hj => P.of1 j (by rw [P.o1]; exact hj)), <- b01, P.o1]; simp
      rw [q8c54_true (by simp) (by simp) g3 g4 g5 (kB_true _ _ _) (kB_true _ _ _) (kB_true _ _ _), v54_true (by simp) (by simp) g3 g4 g6] at e2
      exact xwp_toEnd (s := ⟨_, _, _⟩) hcl (hP ▸ FOK) 1000 e2 ⟨mkT [6] [.bool true], mkH [], 50⟩ ⟨_, _, _, rfl, by rw [hn]; rfl, by rw [hn]; exact ⟨rfl, trivial⟩, trivial⟩ (hfin _ _ (fin_of rfl trivial (by rw [hn]) rfl))
  have := hlf (bO x.oN) (bO y.oN) rfl rfl
  rw [<- b01] at this
  exact this
theorem b8 {bi br : Bool} {a b L C R RC : Nat} {inp rg : Nat -> Int} (hb : bi = false -> L = 0) (hr : br = false -> R = 0) (ha : a < 256) (hb' : b < 256) (hrg : ∀ j, j < R -> uB (rg j) = true) :
    Body Try.prog 8 [vI bi 0 L C, vR br R RC, .agg ⟨[.int .u8 (a : Int), .int .u8 (b : Int)]⟩] (mkH (exIn bi br L inp R rg)) (.bool true) [] 50 0 := by
  refine body_of_ro [] mixed fx8 (by simp) ?_ fun E Q hP hn hcl hfin => ?_
  · intro id blk h hro
    cases bi <;> cases br
    · cases h
    all_goals
      simp only [exIn, exI, exR, mkH, List.append_nil, List.nil_append, List.cons_append, cond_true, cond_false, hget] at h
      revert h
    · cases Nat.beq 41 id <;> intro h
      · cases h
      · cases h; cases hro
    · cases Nat.beq 40 id <;> intro h
      · cases h
      · cases h; cases hro
    · cases Nat.beq 40 id <;> cases Nat.beq 41 id <;> intro h
      · cases h
      all_goals cases h; cases hro
  have e := q8_0 bi br (a : Int) (b : Int) L C R RC inp rg hb hr
  rw [tau8_true, cond_true] at e
  cases hbig : big8 L R with
  | true =>
    rw [hbig, cond_true] at e
    exact xwp_toEnd (s := ⟨_, _, _⟩) hcl (hP ▸ fok FOK _) 1000 e ⟨mkT [6] [.bool true], mkH (exIn bi br L inp R rg), 50⟩ ⟨_, _, _, rfl, by rw [hn]; cases bi <;> cases br <;> rfl, by rw [hn]; cases bi <;> cases br <;> exact ⟨rfl, trivial⟩, by
      rw [hn, hP]
      cases bi <;> cases br
      · exact trivial
      · exact ⟨bis_rgB, trivial⟩
      · exact ⟨bis_inB, trivial⟩
      · exact ⟨bis_inB, bis_rgB, trivial⟩⟩ (hfin _ _ (fin_of rfl trivial (by rw [hn]) rfl))
  | false =>
    rw [hbig, cond_false] at e
    have hLR : L <= 2000 /\ R <= 40 := by
      unfold big8 at hbig
      by_cases h1 : (L : Int) > 2000
      · rw [decide_eq_true h1] at hbig; cases hbig
      · rw [decide_eq_false h1, cond_false] at hbig
        by_cases h2 : (R : Int) > 40
        · rw [decide_eq_true h2] at hbig; cases hbig
        · omega
    obtain ⟨m, hm⟩ : ∃ m, m = m8 L R inp rg := ⟨_, rfl⟩
    have hok : OKM m := by
      rw [hm]
      exact setsM_ok (newM_ok (by unfold szB; exact decide_eq_true (by omega))) hrg
    refine xwp_toLoop (s := ⟨_, _, _⟩) (hP ▸ fok FOK _) 1000 e (S8 bi br (a : Int) (b : Int) L C R RC inp rg m 0) ⟨_, ms8 m 0 ++ ([(60, box8 (a : Int) (b : Int)), (61, .var (arr8 0))] ++ exIn bi br L inp R rg), 130, rfl, ?_, ?_, ?_⟩ ?_
    · rw [hn]; cases bi <;> cases br <;> rfl
    · rw [hn]; cases bi <;> cases br <;> exact ⟨rfl, rfl, rfl, rfl, rfl, trivial⟩
    · rw [hn, hP]
      cases bi <;> cases br
      · exact ⟨rfl, rfl, trivial⟩
      · exact ⟨rfl, rfl, bis_rgB, trivial⟩
      · exact ⟨rfl, rfl, bis_inB, trivial⟩
      · exact ⟨rfl, rfl, bis_inB, bis_rgB, trivial⟩
    refine loop8 hP hn (cl_ctx hcl _) hm hb hr hLR.2 hLR.1 ?_
    show XWP E.toEnv x8_59 Q (X8 bi br (a : Int) (b : Int) L R inp rg m)
    refine XWP.wk (wk_sub (has_sub (A := h8_0 (a : Int) (b : Int) m) ?_)) (tail8 hP hn hcl hfin hok ha hb')
    cases bi <;> cases br <;> exact ⟨rfl, rfl, rfl, rfl, rfl, rfl, rfl, rfl, rfl, rfl, rfl, trivial⟩
end Go.X
