import Derived.Test.YtnekegldodbgjaaG43
set_option linter.all false
namespace Go.X
open Go Go.Proofs
def SeQ (n : Nat) (f : Nat -> List Value) : Prop := ∀ j, j < n -> f j = seQ f j
theorem step_seQ (w : Bool) {s : RSt} (h : SeQ s.sN s.sf) : SeQ (stepF (e0 w) s).2.sN (stepF (e0 w) s).2.sf := by
  unfold stepF stepG
  cases plB s.m.sz s.m.pl 4 with
  | false => exact h
  | true =>
    simp only [cond_true]
    cases (decA (w32 s.m)).err == 0 with
    | false => exact h
    | true =>
      simp only [cond_true]
      cases plainB (decA (w32 s.m)).q with
      | true => exact h
      | false =>
        simp only [cond_false]
        cases (decA (w32 s.m)).q == 55 with
        | true =>
          simp only [cond_true]
          unfold callR
          cases s.m.x 17 == 1 <;> cases s.m.x 17 == 2 <;> cases (s.m.x 17 == 3 || (s.m.x 17 == 4 || s.m.x 17 == 5)) <;> exact h
        | false =>
          simp only [cond_false]
          unfold memF
          cases plB s.m.sz (atM s.m (decA (w32 s.m)).c) (sizeF (decA (w32 s.m)).q) with
          | false => exact h
          | true =>
            cases w with
            | false => exact h
            | true =>
              intro j hj
              have hj : j < s.sN + 1 := hj
              show (bif Nat.blt j s.sN then s.sf j else rowM s.m _ _) = seQ (seMore s.sf s.sN (rowM s.m _ _)) j
              unfold seQ seMore
              by_cases h1 : j < s.sN
              · rw [lt_blt h1]; exact h j h1
              · rw [blt_ff h1]; rfl
theorem run_seQ (w : Bool) : ∀ (k n : Nat) (s : RSt), SeQ s.sN s.sf -> SeQ (runF (stepF (e0 w)) k s n).1.sN (runF (stepF (e0 w)) k s n).1.sf
  | 0, n, s, h => h
  | k + 1, n, s, h => by
    cases h0 : s.m.st == 0 with
    | false => rw [runF_end h0]; exact h
    | true =>
      have hm := step_seQ w h
      obtain ⟨ok, s', hs⟩ : ∃ ok s', stepF (e0 w) s = (ok, s') := ⟨_, _, rfl⟩
      rw [hs] at hm
      cases ok with
      | false => rw [runF_no h0 hs]; exact hm
      | true => rw [runF_go h0 hs]; exact run_seQ w k (n + 1) s' hm
theorem a28 {b : Bool} {st cd n mk : Int} {oN : Nat} {of of2 : Nat -> Int} (h : ∀ j, j < oN -> of j = of2 j) :
    AtA 28 [resA st cd (vOa 63 b oN) n mk, resA st cd (vOa 71 b oN) n mk] (exO 63 b (outB oN of) ++ exO 71 b (outB oN of2)) (.bool true) := by
  cases b with
  | true => exact ⟨rfl, fun k => adet_of_body (b28 (bo := true) h) [(40, 63), (41, 71)] [] rfl rfl ⟨bis_outB, bis_outB, trivial⟩ rfl rfl ⟨bis_outB, bis_outB, trivial⟩ rfl⟩
  | false => exact ⟨rfl, fun k => adet_of_body (b28 (bo := false) h) [] [] rfl rfl trivial rfl rfl trivial rfl⟩
theorem bis_to {P : Program} {σ : Nm} {n : Nat} {f g : Nat -> List Value} {o r : Bool} (h : ∀ j, j < n -> seQ f j = g j) (ho : r = false) : BIs P σ (seB n (seQ f)) (.rows n 4 g o r) := ⟨rfl, rfl, fun j hj => by rw [seQ_ren, h j hj], .inl rfl, .inr ho⟩
theorem bis_fro {P : Program} {σ : Nm} {n : Nat} {f g : Nat -> List Value} {r : Bool} (h : ∀ j, j < n -> seQ f j = g j) : BIs P σ (.rows n 4 g true r) (seB n (seQ f)) := ⟨rfl, rfl, fun j hj => by rw [<- h j hj, seQ_ren], .inl rfl, .inr rfl⟩
theorem a29_1 {c l : Nat} {h g : Nat -> List Value} (hl : l = c) (hc : c <= 1000000000) (hq : SeQ c h) (hg : ∀ j, j < c -> g j = h j) :
    AtA 29 [vOa 72 true c, .slice (some ⟨131, 0, none⟩) l l] (exO 72 true (seB c h) ++ [(131, .rows l 4 g true false)]) (.bool true) := by
  subst hl
  have q1 : ∀ j, j < l -> seQ h j = h j := fun j hj => (hq j hj).symm
  have q2 : ∀ j, j < l -> seQ h j = g j := fun j hj => by rw [hg j hj]; exact (hq j hj).symm
  exact ⟨rfl, fun k => adet_of_body (b29 (l := l) (f := h) (g := h) hc fun _ _ => rfl) [(40, 72), (41, 131)] [] rfl rfl ⟨bis_to q1 rfl, bis_to q2 rfl, trivial⟩ rfl rfl ⟨bis_fro q1, bis_fro q2, trivial⟩ rfl⟩
theorem a29_2 {c l : Nat} {h g : Nat -> List Value} (hl : l = c) (hc : c <= 1000000000) (hq : SeQ c h) (hg : ∀ j, j < c -> g j = h j) :
    AtA 29 [vOa 72 true c, .slice (some ⟨132, 0, none⟩) l l] (exO 72 true (seB c h) ++ [(132, .rows l 4 g true false)]) (.bool true) := by
  subst hl
  have q1 : ∀ j, j < l -> seQ h j = h j := fun j hj => (hq j hj).symm
  have q2 : ∀ j, j < l -> seQ h j = g j := fun j hj => by rw [hg j hj]; exact (hq j hj).symm
  exact ⟨rfl, fun k => adet_of_body (b29 (l := l) (f := h) (g := h) hc fun _ _ => rfl) [(40, 72), (41, 132)] [] rfl rfl ⟨bis_to q1 rfl, bis_to q2 rfl, trivial⟩ rfl rfl ⟨bis_fro q1, bis_fro q2, trivial⟩ rfl⟩
theorem p29_0a (g : Nat -> List Value) : walk (lookF FL) noSc 1000 x29 (argTm 0 [.slice none 0 0, .slice (some ⟨41, 0, none⟩) 0 0]) (mkH [(41, .rows 0 4 g false false)]) 100 ⟨[], [], [], []⟩ ⟨[4], [], [], [41]⟩ ⟨[13, 12], [], [0, 1], [41]⟩ =
    some ⟨⟨[some (true, .int .i64 0), some (true, .int .i64 0)], [], .normal, 100⟩, some (x29_20, [.bl 0, .sq x29_25])⟩ := by kernel_rfl
theorem p29_0b (g : Nat -> List Value) : walk (lookF FL) noSc 1000 x29_20 (mkT [13, 12, 0, 1] [.int .i64 0, .int .i64 0, .slice none 0 0, .slice (some ⟨41, 0, none⟩) 0 0]) (mkH [(41, .rows 0 4 g false false)]) 101 ⟨[], [], [], [41]⟩ ⟨[4], [], [], [41]⟩ ⟨[], [], [], []⟩ =
    some ⟨⟨[], [], .exit 0, 101⟩, none⟩ := by kernel_rfl
theorem p29_0e (g : Nat -> List Value) : walk (lookF FL) noSc 1000 x29_25 (mkT [] []) (mkH [(41, .rows 0 4 g false false)]) 101 ⟨[], [], [], []⟩ ⟨[4], [], [], [41]⟩ ⟨[], [], [], []⟩ =
    some ⟨⟨[some (true, .bool true)], [], .ret, 101⟩, none⟩ := by kernel_rfl
theorem bis_z {P : Program} {σ : Nm} {g g' : Nat -> List Value} : BIs P σ (.rows 0 4 g false false) (.rows 0 4 g' false false) := ⟨rfl, rfl, fun j hj => absurd hj (Nat.not_lt_zero _), .inr (.inl rfl), .inr rfl⟩
theorem b29_0 (g : Nat -> List Value) : Body Try.prog 29 [.slice none 0 0, .slice (some ⟨41, 0, none⟩) 0 0] (mkH [(41, .rows 0 4 g false false)]) (.bool true) [] 100 0 := by
  refine body_of mixed fx29 (by simp) fun ρ w hd => ?_
  let E := envOf Try.prog 26 100 (mkH [(41, .rows 0 4 g false false)]) mixed ρ w hd
  let S : Unit -> St := fun _ => ⟨mkT [13, 12, 0, 1] [.int .i64 0, .int .i64 0, .slice none 0 0, .slice (some ⟨41, 0, none⟩) 0 0], mkH [(41, .rows 0 4 g false false)], 101⟩
  refine xwp_toLoop (E := E) (s := ⟨_, _, _⟩) FOK 1000 (p29_0a g) (S ()) ⟨_, _, _, rfl, rfl, ⟨rfl, rfl, rfl, rfl, trivial⟩, bis_z, trivial⟩ ?_
  refine xwp_loopR (ι := Unit) S (fun _ => True) (fun _ => 0) () trivial fun _ _ => ?_
  have hcr := cl_round (S := S) (I := fun _ => True) (μ := fun _ => 0) (i := ()) (cl_ctx (E := E.toEnv) (Q := finP E.toEnv [(4, none)] (mkH [(41, .rows 0 4 g false false)]) (.bool true) [] 0) cl_fin [.bl 0, .sq x29_25])
  refine xwp_toEnd (E := E) (s := S ()) hcr FOK 1000 (p29_0b g) ⟨mkT [] [], mkH [(41, .rows 0 4 g false false)], 101⟩ ⟨_, _, _, rfl, rfl, trivial, bis_z, trivial⟩ ?_
  show XWP E.toEnv x29_25 _ ⟨mkT [] [], mkH [(41, .rows 0 4 g false false)], 101⟩
  exact xwp_toEnd (E := E) (s := ⟨mkT [] [], mkH [(41, .rows 0 4 g false false)], 101⟩) cl_fin FOK 1000 (p29_0e g) ⟨mkT [4] [.bool true], mkH [(41, .rows 0 4 g false false)], 100⟩ ⟨_, _, _, rfl, rfl, ⟨rfl, trivial⟩, bis_z, trivial⟩ (fin_of rfl ⟨rfl, trivial⟩ rfl rfl)
theorem a29_0 (c : Nat) (h g : Nat -> List Value) : AtA 29 [vOa 72 false c, .slice (some ⟨130, 0, none⟩) 0 0] (exO 72 false (seB c h) ++ [(130, .rows 0 4 g false false)]) (.bool true) :=
  ⟨rfl, fun k => adet_of_body (b29_0 g) [(41, 130)] [] rfl rfl ⟨bis_z, trivial⟩ rfl rfl ⟨bis_z, trivial⟩ rfl⟩
theorem d28_true {b : Bool} {m : MS} {oN : Nat} {of of2 : Nat -> Int} {n : Nat} {mk : Int} (h : ∀ j, j < oN -> of j = of2 j) : D28 b m oN of of2 n mk = true :=
  decP_true ⟨rfl, by cases b <;> first | exact trivial | exact ⟨rfl, rfl, trivial⟩, a28 h⟩
theorem c1f_eq (f c : Nat -> List Value) (j : Nat) : c1f f c j = f j := by
  unfold c1f rowCat
  rw [blt_ff (Nat.not_lt_zero _), cond_false]
  show f (0 + (j - 0)) = f j
  rw [Nat.zero_add, Nat.sub_zero]
theorem rowPut_0 (f g : Nat -> List Value) (i j : Nat) : rowPut f i 0 g j = f j := by
  unfold rowPut
  rw [show (Nat.ble i j && Nat.blt j (i + 0)) = false by rw [ble_dec, blt_dec, Nat.add_zero]; simp, cond_false]
theorem d29_true {s1 s2 : Bool} {a b c : Nat} {f g h : Nat -> List Value} (hc : (s1 || s2) = true -> c = (bif s1 then a + 1 else 0) + (bif s2 then b + 1 else 0)) (hb : c <= 1000000000) (hq : SeQ c h)
    (hg : ∀ j, j < c -> h j = bif Nat.blt j (bif s1 then a + 1 else 0) then f j else g (j - (bif s1 then a + 1 else 0))) : D29 s1 s2 a b c f g h = true := by
  cases s1 <;> cases s2
  · exact decP_true ⟨rfl, ⟨rfl, trivial⟩, a29_0 c h _⟩
  · have hc := hc rfl
    simp only [cond_true, cond_false] at hc hg
    refine decP_true ⟨rfl, ⟨rfl, rfl, trivial⟩, a29_1 (by omega) hb hq fun j hj => ?_⟩
    rw [hg j hj, c1f_eq, blt_ff (Nat.not_lt_zero _), cond_false, Nat.sub_zero]
  · have hc := hc rfl
    simp only [cond_true, cond_false] at hc hg
    refine decP_true ⟨rfl, ⟨rfl, rfl, trivial⟩, a29_1 (by omega) hb hq fun j hj => ?_⟩
    rw [hg j hj, lt_blt (show j < a + 1 by omega), cond_true, rowPut_0, c1f_eq]
  · have hc := hc rfl
    simp only [cond_true, cond_false] at hc hg
    refine decP_true ⟨rfl, ⟨rfl, rfl, trivial⟩, a29_2 (by omega) hb hq fun j hj => ?_⟩
    rw [hg j hj]
    unfold rowCat
    simp only [Nat.zero_add, c1f_eq]
theorem q8c52_true {s1 s2 : Bool} {a b : Nat} (ha : a <= 1000) (hb : b <= 1000) : q8c52 s1 s2 a b true true = true := by
  have e1 : (0 + (b + 1)).ble (b + 1) = true := by rw [ble_dec]; simp
  have e2 : (0 + (a + 1)).ble (a + 1) = true := by rw [ble_dec]; simp
  have e3 : decide ((0 + (b + 1)) * 37 <= 1099511627776) = true := decide_eq_true (by omega)
  have e4 : decide ((0 + (a + 1)) * 37 <= 1099511627776) = true := decide_eq_true (by omega)
  have e5 : (0 + (a + 1) + 0).ble (0 + (a + 1)) = true := by rw [ble_dec]; simp
  have e6 : (0 + (0 + (a + 1))).ble (0 + (a + 1)) = true := by rw [ble_dec]; simp
  have e7 : (0 + (a + 1) + (b + 1)).ble (0 + (a + 1)) = false := by rw [ble_dec]; simp
  have e8 : (0 + (a + 1)).ble (0 + (a + 1)) = true := by rw [ble_dec]; simp
  have e9 : decide ((0 + (a + 1) + (b + 1)) * 37 <= 1099511627776) = true := decide_eq_true (by omega)
  unfold q8c52
  cases s1 <;> cases s2
  · rfl
  · rw [e1, e3]; rfl
  · rw [e2, e4, e5, e6]; rfl
  · rw [e1, e2, e4, e6, e7, e8, e9]; rfl
end Go.X
namespace Go.X
open Go Go.Proofs
section
variable {E : FEnv} {Q : Post} (hP : E.P = Try.prog) (hn : E.B.n = 50) (hcl : Cl E.toEnv Q) {p q : Int} {m : MS} {al x y z : RSt} {na nx ny nz : Nat} {b0 b1 b2 s1 s2 : Bool} {fu : Int} {yy : XCode}
  (hs1 : ∀ {σ : Nm}, BIs Try.prog σ (seB x.sN x.sf) (seB x.sN x.sf)) (hs2 : ∀ {σ : Nm}, BIs Try.prog σ (seB y.sN y.sf) (seB y.sN y.sf)) (hs3 : ∀ {σ : Nm}, BIs Try.prog σ (seB z.sN z.sf) (seB z.sN z.sf))
include hP hn hcl hs1 hs2 hs3
theorem t8_44 (hf : IntKind.i64.wrap (IntKind.i64.wrap p + IntKind.i64.wrap q) = fu) (hA : AtN 24 [pAt 92, .slice none 0 0, .int .i64 fu] (m.HA 90 91 92) (resV24 al.m (vOa 131 b0 al.oN) na al.mark) (upd24g 90 91 92 al.m b0 al.oN al.of na al.mark) 130 2)
    (hQ : XWP E.toEnv yy Q ⟨mkT [13, 5, 7] v8_1, mkH (h8_1 p q m al na b0), 130⟩) : XWP E.toEnv (.seq (.region x8_44) yy) Q ⟨mkT [5, 7] v8_0, mkH (h8_0 p q m), 130⟩ := by
  have e := p8_44 p q m al al al al na na na na b0 b0 b0 b0 b0 fu
  have hh : Has (mkH (h8_0 p q m)) (m.HA 90 91 92) := by cases b0 <;> exact ⟨rfl, rfl, rfl, trivial⟩
  rw [decP_true ⟨by rw [hf], hh, hA⟩] at e
  simp only [Bool.and_self, cond_true] at e
  refine xwp_seqW (s := ⟨_, _, _⟩) hcl (fokE hP _) 1000 e rfl _ ⟨v8_1, h8_1 p q m al na b0, 130, rfl, ?_, ?_, ?_⟩ hQ
  · rw [hn]; cases b0 <;> rfl
  · rw [hn]; cases b0 <;> exact ⟨rfl, rfl, rfl, trivial⟩
  · rw [hn, hP]
    cases b0
    · exact ⟨bis_resO (fun h => by cases h), bis_mem, bis_kn, bis_mAt rfl rfl, bis_mem, bis_kn, bis_mAt rfl rfl, bis_mem, bis_kn, bis_mAt rfl rfl, rfl, rfl, trivial⟩
    · exact ⟨bis_resO (fun _ => rfl), bis_outB, bis_mem, bis_kn, bis_mAt rfl rfl, bis_mem, bis_kn, bis_mAt rfl rfl, bis_mem, bis_kn, bis_mAt rfl rfl, rfl, rfl, trivial⟩
theorem t8_45 (hf : IntKind.i64.wrap p = fu) (hA : AtN 27 [pAt 95, .slice none 0 0, .int .i64 fu] (m.HA 93 94 95) (.tuple ⟨[resV24 x.m (vOa 131 b1 x.oN) nx x.mark, vOa 132 s1 x.sN]⟩) (upd27g 93 94 95 x.m b1 s1 x.oN x.of x.sN x.sf nx x.mark) 130 3)
    (hQ : XWP E.toEnv yy Q ⟨mkT [14, 15, 13, 5, 7] (v8_2 x s1), mkH (h8_2 p q m al x na nx b0 b1 s1), 130⟩) : XWP E.toEnv (.seq (.region x8_45) yy) Q ⟨mkT [13, 5, 7] v8_1, mkH (h8_1 p q m al na b0), 130⟩ := by
  have e := p8_45 p q m al x al al na nx na na b0 b1 b0 s1 b0 fu
  have hh : Has (mkH (h8_1 p q m al na b0)) (m.HA 93 94 95) := by cases b0 <;> cases b1 <;> cases s1 <;> exact ⟨rfl, rfl, rfl, trivial⟩
  rw [decP_true ⟨by rw [hf], hh, hA⟩] at e
  simp only [Bool.and_self, cond_true] at e
  refine xwp_seqW (s := ⟨_, _, _⟩) hcl (fokE hP _) 1000 e rfl _ ⟨(v8_2 x s1), h8_2 p q m al x na nx b0 b1 s1, 130, rfl, ?_, ?_, ?_⟩ hQ
  · rw [hn]; cases b0 <;> cases b1 <;> cases s1 <;> rfl
  · rw [hn]; cases b0 <;> cases b1 <;> cases s1 <;> exact ⟨rfl, rfl, rfl, rfl, rfl, trivial⟩
  · rw [hn, hP]
    cases b0 <;> cases b1 <;> cases s1
    · exact ⟨bis_resO (fun h => by cases h), bis_mem, bis_kn, bis_mAt rfl rfl, bis_resO (fun h => by cases h), bis_mem, bis_kn, bis_mAt rfl rfl, bis_mem, bis_kn, bis_mAt rfl rfl, rfl, rfl, trivial⟩
    · exact ⟨bis_resO (fun h => by cases h), hs1, bis_mem, bis_kn, bis_mAt rfl rfl, bis_resO (fun h => by cases h), bis_mem, bis_kn, bis_mAt rfl rfl, bis_mem, bis_kn, bis_mAt rfl rfl, rfl, rfl, trivial⟩
    · exact ⟨bis_resO (fun _ => rfl), bis_outB, bis_mem, bis_kn, bis_mAt rfl rfl, bis_resO (fun h => by cases h), bis_mem, bis_kn, bis_mAt rfl rfl, bis_mem, bis_kn, bis_mAt rfl rfl, rfl, rfl, trivial⟩
    · exact ⟨bis_resO (fun _ => rfl), bis_outB, hs1, bis_mem, bis_kn, bis_mAt rfl rfl, bis_resO (fun h => by cases h), bis_mem, bis_kn, bis_mAt rfl rfl, bis_mem, bis_kn, bis_mAt rfl rfl, rfl, rfl, trivial⟩
    · exact ⟨bis_resO (fun h => by cases h), bis_mem, bis_kn, bis_mAt rfl rfl, bis_resO (fun _ => rfl), bis_outB, bis_mem, bis_kn, bis_mAt rfl rfl, bis_mem, bis_kn, bis_mAt rfl rfl, rfl, rfl, trivial⟩
    · exact ⟨bis_resO (fun h => by cases h), hs1, bis_mem, bis_kn, bis_mAt rfl rfl, bis_resO (fun _ => rfl), bis_outB, bis_mem, bis_kn, bis_mAt rfl rfl, bis_mem, bis_kn, bis_mAt rfl rfl, rfl, rfl, trivial⟩
    · exact ⟨bis_resO (fun _ => rfl), bis_outB, bis_mem, bis_kn, bis_mAt rfl rfl, bis_resO (fun _ => rfl), bis_outB, bis_mem, bis_kn, bis_mAt rfl rfl, bis_mem, bis_kn, bis_mAt rfl rfl, rfl, rfl, trivial⟩
    · exact ⟨bis_resO (fun _ => rfl), bis_outB, hs1, bis_mem, bis_kn, bis_mAt rfl rfl, bis_resO (fun _ => rfl), bis_outB, bis_mem, bis_kn, bis_mAt rfl rfl, bis_mem, bis_kn, bis_mAt rfl rfl, rfl, rfl, trivial⟩
set_option maxHeartbeats 4000000 in
theorem t8_46 (hf : IntKind.i64.wrap q = fu) (hA : AtN 27 [pAt 95, .slice none 0 0, .int .i64 fu] (x.m.HA 93 94 95) (.tuple ⟨[resV24 y.m (vOa 131 b2 y.oN) ny y.mark, vOa 132 s2 y.sN]⟩) (upd27g 93 94 95 y.m b2 s2 y.oN y.of y.sN y.sf ny y.mark) 130 3)
    (hQ : XWP E.toEnv yy Q ⟨mkT [16, 17, 14, 15, 13, 5, 7] (v8_3 x y s1 s2), mkH (h8_3 p q m al x y na nx ny b0 b1 b2 s1 s2), 130⟩) : XWP E.toEnv (.seq (.region x8_46) yy) Q ⟨mkT [14, 15, 13, 5, 7] (v8_2 x s1), mkH (h8_2 p q m al x na nx b0 b1 s1), 130⟩ := by
  have e := p8_46 p q m al x y al na nx ny na b0 b1 b2 s1 s2 fu
  have hh : Has (mkH (h8_2 p q m al x na nx b0 b1 s1)) (x.m.HA 93 94 95) := by cases b0 <;> cases b1 <;> cases b2 <;> cases s1 <;> cases s2 <;> exact ⟨rfl, rfl, rfl, trivial⟩
  rw [decP_true ⟨by rw [hf], hh, hA⟩] at e
  simp only [Bool.and_self, cond_true] at e
  refine xwp_seqW (s := ⟨_, _, _⟩) hcl (fokE hP _) 1000 e rfl _ ⟨(v8_3 x y s1 s2), h8_3 p q m al x y na nx ny b0 b1 b2 s1 s2, 130, rfl, ?_, ?_, ?_⟩ hQ
  · rw [hn]; cases b0 <;> cases b1 <;> cases b2 <;> cases s1 <;> cases s2 <;> rfl
  · rw [hn]; cases b0 <;> cases b1 <;> cases b2 <;> cases s1 <;> cases s2 <;> exact ⟨rfl, rfl, rfl, rfl, rfl, rfl, rfl, trivial⟩
  · rw [hn, hP]
    cases b0 <;> cases b1 <;> cases b2 <;> cases s1 <;> cases s2
    · exact ⟨bis_resO (fun h => by cases h), bis_mem, bis_kn, bis_mAt rfl rfl, bis_resO (fun h => by cases h), bis_resO (fun h => by cases h), bis_mem, bis_kn, bis_mAt rfl rfl, bis_mem, bis_kn, bis_mAt rfl rfl, rfl, rfl, trivial⟩
    · exact ⟨bis_resO (fun h => by cases h), hs2, bis_mem, bis_kn, bis_mAt rfl rfl, bis_resO (fun h => by cases h), bis_resO (fun h => by cases h), bis_mem, bis_kn, bis_mAt rfl rfl, bis_mem, bis_kn, bis_mAt rfl rfl, rfl, rfl, trivial⟩
    · exact ⟨bis_resO (fun h => by cases h), bis_mem, bis_kn, bis_mAt rfl rfl, bis_resO (fun h => by cases h), hs1, bis_resO (fun h => by cases h), bis_mem, bis_kn, bis_mAt rfl rfl, bis_mem, bis_kn, bis_mAt rfl rfl, rfl, rfl, trivial⟩
    · exact ⟨bis_resO (fun h => by cases h), hs2, bis_mem, bis_kn, bis_mAt rfl rfl, bis_resO (fun h => by cases h), hs1, bis_resO (fun h => by cases h), bis_mem, bis_kn, bis_mAt rfl rfl, bis_mem, bis_kn, bis_mAt rfl rfl, rfl, rfl, trivial⟩
    · exact ⟨bis_resO (fun _ => rfl), bis_outB, bis_mem, bis_kn, bis_mAt rfl rfl, bis_resO (fun h => by cases h), bis_resO (fun h => by cases h), bis_mem, bis_kn, bis_mAt rfl rfl, bis_mem, bis_kn, bis_mAt rfl rfl, rfl, rfl, trivial⟩
    · exact ⟨bis_resO (fun _ => rfl), bis_outB, hs2, bis_mem, bis_kn, bis_mAt rfl rfl, bis_resO (fun h => by cases h), bis_resO (fun h => by cases h), bis_mem, bis_kn, bis_mAt rfl rfl, bis_mem, bis_kn, bis_mAt rfl rfl, rfl, rfl, trivial⟩
    · exact ⟨bis_resO (fun _ => rfl), bis_outB, bis_mem, bis_kn, bis_mAt rfl rfl, bis_resO (fun h => by cases h), hs1, bis_resO (fun h => by cases h), bis_mem, bis_kn, bis_mAt rfl rfl, bis_mem, bis_kn, bis_mAt rfl rfl, rfl, rfl, trivial⟩
    · exact ⟨bis_resO (fun _ => rfl), bis_outB, hs2, bis_mem, bis_kn, bis_mAt rfl rfl, bis_resO (fun h => by cases h), hs1, bis_resO (fun h => by cases h), bis_mem, bis_kn, bis_mAt rfl rfl, bis_mem, bis_kn, bis_mAt rfl rfl, rfl, rfl, trivial⟩
    · exact ⟨bis_resO (fun h => by cases h), bis_mem, bis_kn, bis_mAt rfl rfl, bis_resO (fun _ => rfl), bis_outB, bis_resO (fun h => by cases h), bis_mem, bis_kn, bis_mAt rfl rfl, bis_mem, bis_kn, bis_mAt rfl rfl, rfl, rfl, trivial⟩
    · exact ⟨bis_resO (fun h => by cases h), hs2, bis_mem, bis_kn, bis_mAt rfl rfl, bis_resO (fun _ => rfl), bis_outB, bis_resO (fun h => by cases h), bis_mem, bis_kn, bis_mAt rfl rfl, bis_mem, bis_kn, bis_mAt rfl rfl, rfl, rfl, trivial⟩
    · exact ⟨bis_resO (fun h => by cases h), bis_mem, bis_kn, bis_mAt rfl rfl, bis_resO (fun _ => rfl), bis_outB, hs1, bis_resO (fun h => by cases h), bis_mem, bis_kn, bis_mAt rfl rfl, bis_mem, bis_kn, bis_mAt rfl rfl, rfl, rfl, trivial⟩
    · exact ⟨bis_resO (fun h => by cases h), hs2, bis_mem, bis_kn, bis_mAt rfl rfl, bis_resO (fun _ => rfl), bis_outB, hs1, bis_resO (fun h => by cases h), bis_mem, bis_kn, bis_mAt rfl rfl, bis_mem, bis_kn, bis_mAt rfl rfl, rfl, rfl, trivial⟩
    · exact ⟨bis_resO (fun _ => rfl), bis_outB, bis_mem, bis_kn, bis_mAt rfl rfl, bis_resO (fun _ => rfl), bis_outB, bis_resO (fun h => by cases h), bis_mem, bis_kn, bis_mAt rfl rfl, bis_mem, bis_kn, bis_mAt rfl rfl, rfl, rfl, trivial⟩
    · exact ⟨bis_resO (fun _ => rfl), bis_outB, hs2, bis_mem, bis_kn, bis_mAt rfl rfl, bis_resO (fun _ => rfl), bis_outB, bis_resO (fun h => by cases h), bis_mem, bis_kn, bis_mAt rfl rfl, bis_mem, bis_kn, bis_mAt rfl rfl, rfl, rfl, trivial⟩
    · exact ⟨bis_resO (fun _ => rfl), bis_outB, bis_mem, bis_kn, bis_mAt rfl rfl, bis_resO (fun _ => rfl), bis_outB, hs1, bis_resO (fun h => by cases h), bis_mem, bis_kn, bis_mAt rfl rfl, bis_mem, bis_kn, bis_mAt rfl rfl, rfl, rfl, trivial⟩
    · exact ⟨bis_resO (fun _ => rfl), bis_outB, hs2, bis_mem, bis_kn, bis_mAt rfl rfl, bis_resO (fun _ => rfl), bis_outB, hs1, bis_resO (fun h => by cases h), bis_mem, bis_kn, bis_mAt rfl rfl, bis_mem, bis_kn, bis_mAt rfl rfl, rfl, rfl, trivial⟩
    · exact ⟨bis_resO (fun h => by cases h), bis_mem, bis_kn, bis_mAt rfl rfl, bis_resO (fun h => by cases h), bis_resO (fun _ => rfl), bis_outB, bis_mem, bis_kn, bis_mAt rfl rfl, bis_mem, bis_kn, bis_mAt rfl rfl, rfl, rfl, trivial⟩
    · exact ⟨bis_resO (fun h => by cases h), hs2, bis_mem, bis_kn, bis_mAt rfl rfl, bis_resO (fun h => by cases h), bis_resO (fun _ => rfl), bis_outB, bis_mem, bis_kn, bis_mAt rfl rfl, bis_mem, bis_kn, bis_mAt rfl rfl, rfl, rfl, trivial⟩
    · exact ⟨bis_resO (fun h => by cases h), bis_mem, bis_kn, bis_mAt rfl rfl, bis_resO (fun h => by cases h), hs1, bis_resO (fun _ => rfl), bis_outB, bis_mem, bis_kn, bis_mAt rfl rfl, bis_mem, bis_kn, bis_mAt rfl rfl, rfl, rfl, trivial⟩
    · exact ⟨bis_resO (fun h => by cases h), hs2, bis_mem, bis_kn, bis_mAt rfl rfl, bis_resO (fun h => by cases h), hs1, bis_resO (fun _ => rfl), bis_outB, bis_mem, bis_kn, bis_mAt rfl rfl, bis_mem, bis_kn, bis_mAt rfl rfl, rfl, rfl, trivial⟩
    · exact ⟨bis_resO (fun _ => rfl), bis_outB, bis_mem, bis_kn, bis_mAt rfl rfl, bis_resO (fun h => by cases h), bis_resO (fun _ => rfl), bis_outB, bis_mem, bis_kn, bis_mAt rfl rfl, bis_mem, bis_kn, bis_mAt rfl rfl, rfl, rfl, trivial⟩
    · exact ⟨bis_resO (fun _ => rfl), bis_outB, hs2, bis_mem, bis_kn, bis_mAt rfl rfl, bis_resO (fun h => by cases h), bis_resO (fun _ => rfl), bis_outB, bis_mem, bis_kn, bis_mAt rfl rfl, bis_mem, bis_kn, bis_mAt rfl rfl, rfl, rfl, trivial⟩
    · exact ⟨bis_resO (fun _ => rfl), bis_outB, bis_mem, bis_kn, bis_mAt rfl rfl, bis_resO (fun h => by cases h), hs1, bis_resO (fun _ => rfl), bis_outB, bis_mem, bis_kn, bis_mAt rfl rfl, bis_mem, bis_kn, bis_mAt rfl rfl, rfl, rfl, trivial⟩
    · exact ⟨bis_resO (fun _ => rfl), bis_outB, hs2, bis_mem, bis_kn, bis_mAt rfl rfl, bis_resO (fun h => by cases h), hs1, bis_resO (fun _ => rfl), bis_outB, bis_mem, bis_kn, bis_mAt rfl rfl, bis_mem, bis_kn, bis_mAt rfl rfl, rfl, rfl, trivial⟩
    · exact ⟨bis_resO (fun h => by cases h), bis_mem, bis_kn, bis_mAt rfl rfl, bis_resO (fun _ => rfl), bis_outB, bis_resO (fun _ => rfl), bis_outB, bis_mem, bis_kn, bis_mAt rfl rfl, bis_mem, bis_kn, bis_mAt rfl rfl, rfl, rfl, trivial⟩
    · exact ⟨bis_resO (fun h => by cases h), hs2, bis_mem, bis_kn, bis_mAt rfl rfl, bis_resO (fun _ => rfl), bis_outB, bis_resO (fun _ => rfl), bis_outB, bis_mem, bis_kn, bis_mAt rfl rfl, bis_mem, bis_kn, bis_mAt rfl rfl, rfl, rfl, trivial⟩
    · exact ⟨bis_resO (fun h => by cases h), bis_mem, bis_kn, bis_mAt rfl rfl, bis_resO (fun _ => rfl), bis_outB, hs1, bis_resO (fun _ => rfl), bis_outB, bis_mem, bis_kn, bis_mAt rfl rfl, bis_mem, bis_kn, bis_mAt rfl rfl, rfl, rfl, trivial⟩
    · exact ⟨bis_resO (fun h => by cases h), hs2, bis_mem, bis_kn, bis_mAt rfl rfl, bis_resO (fun _ => rfl), bis_outB, hs1, bis_resO (fun _ => rfl), bis_outB, bis_mem, bis_kn, bis_mAt rfl rfl, bis_mem, bis_kn, bis_mAt rfl rfl, rfl, rfl, trivial⟩
    · exact ⟨bis_resO (fun _ => rfl), bis_outB, bis_mem, bis_kn, bis_mAt rfl rfl, bis_resO (fun _ => rfl), bis_outB, bis_resO (fun _ => rfl), bis_outB, bis_mem, bis_kn, bis_mAt rfl rfl, bis_mem, bis_kn, bis_mAt rfl rfl, rfl, rfl, trivial⟩
    · exact ⟨bis_resO (fun _ => rfl), bis_outB, hs2, bis_mem, bis_kn, bis_mAt rfl rfl, bis_resO (fun _ => rfl), bis_outB, bis_resO (fun _ => rfl), bis_outB, bis_mem, bis_kn, bis_mAt rfl rfl, bis_mem, bis_kn, bis_mAt rfl rfl, rfl, rfl, trivial⟩
    · exact ⟨bis_resO (fun _ => rfl), bis_outB, bis_mem, bis_kn, bis_mAt rfl rfl, bis_resO (fun _ => rfl), bis_outB, hs1, bis_resO (fun _ => rfl), bis_outB, bis_mem, bis_kn, bis_mAt rfl rfl, bis_mem, bis_kn, bis_mAt rfl rfl, rfl, rfl, trivial⟩
    · exact ⟨bis_resO (fun _ => rfl), bis_outB, hs2, bis_mem, bis_kn, bis_mAt rfl rfl, bis_resO (fun _ => rfl), bis_outB, hs1, bis_resO (fun _ => rfl), bis_outB, bis_mem, bis_kn, bis_mAt rfl rfl, bis_mem, bis_kn, bis_mAt rfl rfl, rfl, rfl, trivial⟩
set_option maxHeartbeats 4000000 in
theorem t8_47 (hf : IntKind.i64.wrap (IntKind.i64.wrap p + IntKind.i64.wrap q) = fu) (hA : AtN 27 [pAt 98, .slice none 0 0, .int .i64 fu] (m.HA 96 97 98) (.tuple ⟨[resV24 z.m (vOa 131 b0 z.oN) nz z.mark, vOa 132 (s1 || s2) z.sN]⟩) (upd27g 96 97 98 z.m b0 (s1 || s2) z.oN z.of z.sN z.sf nz z.mark) 130 3)
    (hQ : XWP E.toEnv yy Q ⟨mkT [18, 19, 16, 17, 14, 15, 13, 5, 7] (v8_4 x y z s1 s2), mkH (h8_4 p q al x y z na nx ny nz b0 b1 b2 s1 s2), 130⟩) : XWP E.toEnv (.seq (.region x8_47) yy) Q ⟨mkT [16, 17, 14, 15, 13, 5, 7] (v8_3 x y s1 s2), mkH (h8_3 p q m al x y na nx ny b0 b1 b2 s1 s2), 130⟩ := by
  have e := p8_47 p q m al x y z na nx ny nz b0 b1 b2 s1 s2 fu
  have hh : Has (mkH (h8_3 p q m al x y na nx ny b0 b1 b2 s1 s2)) (m.HA 96 97 98) := by cases b0 <;> cases b1 <;> cases b2 <;> cases s1 <;> cases s2 <;> exact ⟨rfl, rfl, rfl, trivial⟩
  rw [decP_true ⟨by rw [hf], hh, hA⟩] at e
  simp only [Bool.and_self, cond_true] at e
  refine xwp_seqW (s := ⟨_, _, _⟩) hcl (fokE hP _) 1000 e rfl _ ⟨(v8_4 x y z s1 s2), h8_4 p q al x y z na nx ny nz b0 b1 b2 s1 s2, 130, rfl, ?_, ?_, ?_⟩ hQ
  · rw [hn]; cases b0 <;> cases b1 <;> cases b2 <;> cases s1 <;> cases s2 <;> rfl
  · rw [hn]; cases b0 <;> cases b1 <;> cases b2 <;> cases s1 <;> cases s2 <;> exact ⟨rfl, rfl, rfl, rfl, rfl, rfl, rfl, rfl, rfl, trivial⟩
  · rw [hn, hP]
    cases b0 <;> cases b1 <;> cases b2 <;> cases s1 <;> cases s2
    · exact ⟨bis_resO (fun h => by cases h), bis_mem, bis_kn, bis_mAt rfl rfl, bis_resO (fun h => by cases h), bis_mem, bis_kn, bis_mAt rfl rfl, bis_resO (fun h => by cases h), bis_resO (fun h => by cases h), bis_mem, bis_kn, bis_mAt rfl rfl, rfl, rfl, trivial⟩
    · exact ⟨bis_resO (fun h => by cases h), hs3, bis_mem, bis_kn, bis_mAt rfl rfl, bis_resO (fun h => by cases h), hs2, bis_mem, bis_kn, bis_mAt rfl rfl, bis_resO (fun h => by cases h), bis_resO (fun h => by cases h), bis_mem, bis_kn, bis_mAt rfl rfl, rfl, rfl, trivial⟩
    · exact ⟨bis_resO (fun h => by cases h), hs3, bis_mem, bis_kn, bis_mAt rfl rfl, bis_resO (fun h => by cases h), bis_mem, bis_kn, bis_mAt rfl rfl, bis_resO (fun h => by cases h), hs1, bis_resO (fun h => by cases h), bis_mem, bis_kn, bis_mAt rfl rfl, rfl, rfl, trivial⟩
    · exact ⟨bis_resO (fun h => by cases h), hs3, bis_mem, bis_kn, bis_mAt rfl rfl, bis_resO (fun h => by cases h), hs2, bis_mem, bis_kn, bis_mAt rfl rfl, bis_resO (fun h => by cases h), hs1, bis_resO (fun h => by cases h), bis_mem, bis_kn, bis_mAt rfl rfl, rfl, rfl, trivial⟩
    · exact ⟨bis_resO (fun h => by cases h), bis_mem, bis_kn, bis_mAt rfl rfl, bis_resO (fun _ => rfl), bis_outB, bis_mem, bis_kn, bis_mAt rfl rfl, bis_resO (fun h => by cases h), bis_resO (fun h => by cases h), bis_mem, bis_kn, bis_mAt rfl rfl, rfl, rfl, trivial⟩
    · exact ⟨bis_resO (fun h => by cases h), hs3, bis_mem, bis_kn, bis_mAt rfl rfl, bis_resO (fun _ => rfl), bis_outB, hs2, bis_mem, bis_kn, bis_mAt rfl rfl, bis_resO (fun h => by cases h), bis_resO (fun h => by cases h), bis_mem, bis_kn, bis_mAt rfl rfl, rfl, rfl, trivial⟩
    · exact ⟨bis_resO (fun h => by cases h), hs3, bis_mem, bis_kn, bis_mAt rfl rfl, bis_resO (fun _ => rfl), bis_outB, bis_mem, bis_kn, bis_mAt rfl rfl, bis_resO (fun h => by cases h), hs1, bis_resO (fun h => by cases h), bis_mem, bis_kn, bis_mAt rfl rfl, rfl, rfl, trivial⟩
    · exact ⟨bis_resO (fun h => by cases h), hs3, bis_mem, bis_kn, bis_mAt rfl rfl, bis_resO (fun _ => rfl), bis_outB, hs2, bis_mem, bis_kn, bis_mAt rfl rfl, bis_resO (fun h => by cases h), hs1, bis_resO (fun h => by cases h), bis_mem, bis_kn, bis_mAt rfl rfl, rfl, rfl, trivial⟩
    · exact ⟨bis_resO (fun h => by cases h), bis_mem, bis_kn, bis_mAt rfl rfl, bis_resO (fun h => by cases h), bis_mem, bis_kn, bis_mAt rfl rfl, bis_resO (fun _ => rfl), bis_outB, bis_resO (fun h => by cases h), bis_mem, bis_kn, bis_mAt rfl rfl, rfl, rfl, trivial⟩
    · exact ⟨bis_resO (fun h => by cases h), hs3, bis_mem, bis_kn, bis_mAt rfl rfl, bis_resO (fun h => by cases h), hs2, bis_mem, bis_kn, bis_mAt rfl rfl, bis_resO (fun _ => rfl), bis_outB, bis_resO (fun h => by cases h), bis_mem, bis_kn, bis_mAt rfl rfl, rfl, rfl, trivial⟩
    · exact ⟨bis_resO (fun h => by cases h), hs3, bis_mem, bis_kn, bis_mAt rfl rfl, bis_resO (fun h => by cases h), bis_mem, bis_kn, bis_mAt rfl rfl, bis_resO (fun _ => rfl), bis_outB, hs1, bis_resO (fun h => by cases h), bis_mem, bis_kn, bis_mAt rfl rfl, rfl, rfl, trivial⟩
    · exact ⟨bis_resO (fun h => by cases h), hs3, bis_mem, bis_kn, bis_mAt rfl rfl, bis_resO (fun h => by cases h), hs2, bis_mem, bis_kn, bis_mAt rfl rfl, bis_resO (fun _ => rfl), bis_outB, hs1, bis_resO (fun h => by cases h), bis_mem, bis_kn, bis_mAt rfl rfl, rfl, rfl, trivial⟩
    · exact ⟨bis_resO (fun h => by cases h), bis_mem, bis_kn, bis_mAt rfl rfl, bis_resO (fun _ => rfl), bis_outB, bis_mem, bis_kn, bis_mAt rfl rfl, bis_resO (fun _ => rfl), bis_outB, bis_resO (fun h => by cases h), bis_mem, bis_kn, bis_mAt rfl rfl, rfl, rfl, trivial⟩
    · exact ⟨bis_resO (fun h => by cases h), hs3, bis_mem, bis_kn, bis_mAt rfl rfl, bis_resO (fun _ => rfl), bis_outB, hs2, bis_mem, bis_kn, bis_mAt rfl rfl, bis_resO (fun _ => rfl), bis_outB, bis_resO (fun h => by cases h), bis_mem, bis_kn, bis_mAt rfl rfl, rfl, rfl, trivial⟩
    · exact ⟨bis_resO (fun h => by cases h), hs3, bis_mem, bis_kn, bis_mAt rfl rfl, bis_resO (fun _ => rfl), bis_outB, bis_mem, bis_kn, bis_mAt rfl rfl, bis_resO (fun _ => rfl), bis_outB, hs1, bis_resO (fun h => by cases h), bis_mem, bis_kn, bis_mAt rfl rfl, rfl, rfl, trivial⟩
    · exact ⟨bis_resO (fun h => by cases h), hs3, bis_mem, bis_kn, bis_mAt rfl rfl, bis_resO (fun _ => rfl), bis_outB, hs2, bis_mem, bis_kn, bis_mAt rfl rfl, bis_resO (fun _ => rfl), bis_outB, hs1, bis_resO (fun h => by cases h), bis_mem, bis_kn, bis_mAt rfl rfl, rfl, rfl, trivial⟩
    · exact ⟨bis_resO (fun _ => rfl), bis_outB, bis_mem, bis_kn, bis_mAt rfl rfl, bis_resO (fun h => by cases h), bis_mem, bis_kn, bis_mAt rfl rfl, bis_resO (fun h => by cases h), bis_resO (fun _ => rfl), bis_outB, bis_mem, bis_kn, bis_mAt rfl rfl, rfl, rfl, trivial⟩
    · exact ⟨bis_resO (fun _ => rfl), bis_outB, hs3, bis_mem, bis_kn, bis_mAt rfl rfl, bis_resO (fun h => by cases h), hs2, bis_mem, bis_kn, bis_mAt rfl rfl, bis_resO (fun h => by cases h), bis_resO (fun _ => rfl), bis_outB, bis_mem, bis_kn, bis_mAt rfl rfl, rfl, rfl, trivial⟩
    · exact ⟨bis_resO (fun _ => rfl), bis_outB, hs3, bis_mem, bis_kn, bis_mAt rfl rfl, bis_resO (fun h => by cases h), bis_mem, bis_kn, bis_mAt rfl rfl, bis_resO (fun h => by cases h), hs1, bis_resO (fun _ => rfl), bis_outB, bis_mem, bis_kn, bis_mAt rfl rfl, rfl, rfl, trivial⟩
    · exact ⟨bis_resO (fun _ => rfl), bis_outB, hs3, bis_mem, bis_kn, bis_mAt rfl rfl, bis_resO (fun h => by cases h), hs2, bis_mem, bis_kn, bis_mAt rfl rfl, bis_resO (fun h => by cases h), hs1, bis_resO (fun _ => rfl), bis_outB, bis_mem, bis_kn, bis_mAt rfl rfl, rfl, rfl, trivial⟩
    · exact ⟨bis_resO (fun _ => rfl), bis_outB, bis_mem, bis_kn, bis_mAt rfl rfl, bis_resO (fun _ => rfl), bis_outB, bis_mem, bis_kn, bis_mAt rfl rfl, bis_resO (fun h => by cases h), bis_resO (fun _ => rfl), bis_outB, bis_mem, bis_kn, bis_mAt rfl rfl, rfl, rfl, trivial⟩
    · exact ⟨bis_resO (fun _ => rfl), bis_outB, hs3, bis_mem, bis_kn, bis_mAt rfl rfl, bis_resO (fun _ => rfl), bis_outB, hs2, bis_mem, bis_kn, bis_mAt rfl rfl, bis_resO (fun h => by cases h), bis_resO (fun _ => rfl), bis_outB, bis_mem, bis_kn, bis_mAt rfl rfl, rfl, rfl, trivial⟩
    · exact ⟨bis_resO (fun _ => rfl), bis_outB, hs3, bis_mem, bis_kn, bis_mAt rfl rfl, bis_resO (fun _ => rfl), bis_outB, bis_mem, bis_kn, bis_mAt rfl rfl, bis_resO (fun h => by cases h), hs1, bis_resO (fun _ => rfl), bis_outB, bis_mem, bis_kn, bis_mAt rfl rfl, rfl, rfl, trivial⟩
    · exact ⟨bis_resO (fun _ => rfl), bis_outB, hs3, bis_mem, bis_kn, bis_mAt rfl rfl, bis_resO (fun _ => rfl), bis_outB, hs2, bis_mem, bis_kn, bis_mAt rfl rfl, bis_resO (fun h => by cases h), hs1, bis_resO (fun _ => rfl), bis_outB, bis_mem, bis_kn, bis_mAt rfl rfl, rfl, rfl, trivial⟩
    · exact ⟨bis_resO (fun _ => rfl), bis_outB, bis_mem, bis_kn, bis_mAt rfl rfl, bis_resO (fun h => by cases h), bis_mem, bis_kn, bis_mAt rfl rfl, bis_resO (fun _ => rfl), bis_outB, bis_resO (fun _ => rfl), bis_outB, bis_mem, bis_kn, bis_mAt rfl rfl, rfl, rfl, trivial⟩
    · exact ⟨bis_resO (fun _ => rfl), bis_outB, hs3, bis_mem, bis_kn, bis_mAt rfl rfl, bis_resO (fun h => by cases h), hs2, bis_mem, bis_kn, bis_mAt rfl rfl, bis_resO (fun _ => rfl), bis_outB, bis_resO (fun _ => rfl), bis_outB, bis_mem, bis_kn, bis_mAt rfl rfl, rfl, rfl, trivial⟩
    · exact ⟨bis_resO (fun _ => rfl), bis_outB, hs3, bis_mem, bis_kn, bis_mAt rfl rfl, bis_resO (fun h => by cases h), bis_mem, bis_kn, bis_mAt rfl rfl, bis_resO (fun _ => rfl), bis_outB, hs1, bis_resO (fun _ => rfl), bis_outB, bis_mem, bis_kn, bis_mAt rfl rfl, rfl, rfl, trivial⟩
    · exact ⟨bis_resO (fun _ => rfl), bis_outB, hs3, bis_mem, bis_kn, bis_mAt rfl rfl, bis_resO (fun h => by cases h), hs2, bis_mem, bis_kn, bis_mAt rfl rfl, bis_resO (fun _ => rfl), bis_outB, hs1, bis_resO (fun _ => rfl), bis_outB, bis_mem, bis_kn, bis_mAt rfl rfl, rfl, rfl, trivial⟩
    · exact ⟨bis_resO (fun _ => rfl), bis_outB, bis_mem, bis_kn, bis_mAt rfl rfl, bis_resO (fun _ => rfl), bis_outB, bis_mem, bis_kn, bis_mAt rfl rfl, bis_resO (fun _ => rfl), bis_outB, bis_resO (fun _ => rfl), bis_outB, bis_mem, bis_kn, bis_mAt rfl rfl, rfl, rfl, trivial⟩
    · exact ⟨bis_resO (fun _ => rfl), bis_outB, hs3, bis_mem, bis_kn, bis_mAt rfl rfl, bis_resO (fun _ => rfl), bis_outB, hs2, bis_mem, bis_kn, bis_mAt rfl rfl, bis_resO (fun _ => rfl), bis_outB, bis_resO (fun _ => rfl), bis_outB, bis_mem, bis_kn, bis_mAt rfl rfl, rfl, rfl, trivial⟩
    · exact ⟨bis_resO (fun _ => rfl), bis_outB, hs3, bis_mem, bis_kn, bis_mAt rfl rfl, bis_resO (fun _ => rfl), bis_outB, bis_mem, bis_kn, bis_mAt rfl rfl, bis_resO (fun _ => rfl), bis_outB, hs1, bis_resO (fun _ => rfl), bis_outB, bis_mem, bis_kn, bis_mAt rfl rfl, rfl, rfl, trivial⟩
    · exact ⟨bis_resO (fun _ => rfl), bis_outB, hs3, bis_mem, bis_kn, bis_mAt rfl rfl, bis_resO (fun _ => rfl), bis_outB, hs2, bis_mem, bis_kn, bis_mAt rfl rfl, bis_resO (fun _ => rfl), bis_outB, hs1, bis_resO (fun _ => rfl), bis_outB, bis_mem, bis_kn, bis_mAt rfl rfl, rfl, rfl, trivial⟩
end
end Go.X
