import Derived.Test.YtnekegldodbgjaaG41
import Derived.Test.YtnekegldodbgjaaG40
set_option linter.all false
namespace Go.X
open Go Go.Proofs
def m8 (L R : Nat) (inp rg : Nat -> Int) : MS := setsM (newM 0 L inp (L + 256)) rg R
def X8 (bi br : Bool) (p q : Int) (L R : Nat) (inp rg : Nat -> Int) (m : MS) : St := ⟨mkT [5, 7] [pAt 60, pAt 61], mkH (ms8 m 3 ++ ([(60, box8 p q), (61, .var (arr8 3))] ++ exIn bi br L inp R rg)), 130⟩
section
variable {E : FEnv} {Q : Post} (hP : E.P = Try.prog) (hn : E.B.n = 50) (hcl : Cl E.toEnv Q) {bi br : Bool} {p q : Int} {L C R RC : Nat} {inp rg : Nat -> Int} {m : MS} (hm : m = m8 L R inp rg) (hb : bi = false -> L = 0) (hr : br = false -> R = 0) (hR : R <= 40) (hL : L <= 2000)
include hP hn hcl hb hr hR hL hm
theorem r8_0 (hQ : XWP E.toEnv (.region x8_37) Q ⟨mkT [33, 5, 7, 0, 1] [.int .i64 0, pAt 60, pAt 61, vI bi 0 L C, vR br R RC], mkH (ms8 m 1 ++ ([(60, box8 p q), (61, .var (arr8 1))] ++ exIn bi br L inp R rg)), 130⟩) : XWP E.toEnv x8_40 Q (S8 bi br p q L C R RC inp rg m 0) := by
  have e := q8_a0 bi br p q L C R RC inp rg (newM 0 L inp (L + 256)) m (L + 256) hb hr
  have hsz : IntKind.i64.wrap ((L : Int) + 256) = ((L + 256 : Nat) : Int) := by rw [wrap_i (by omega) (by omega)]; omega
  rw [hsz, decP_true ⟨rfl, by cases bi <;> cases br <;> first | exact trivial | exact ⟨rfl, trivial⟩, c22_40 hb (by omega) (by omega)⟩] at e
  simp only [Bool.and_self, cond_true] at e
  refine xwp_toLoop (s := S8 bi br p q L C R RC inp rg m 0) (fokE hP _) 1000 e (T8 bi br p q L C R RC inp rg m (setsM (newM 0 L inp (L + 256)) rg 0) 90 91 92 0 0) ⟨_, (newM 0 L inp (L + 256)).HA 90 91 92 ++ (ms8 m 0 ++ ([(60, box8 p q), (61, .var (arr8 0))] ++ exIn bi br L inp R rg)), 130, rfl, ?_, ?_, ?_⟩ ?_
  · rw [hn]; cases bi <;> cases br <;> rfl
  · rw [hn]; cases bi <;> cases br <;> exact ⟨rfl, rfl, rfl, rfl, rfl, rfl, rfl, rfl, rfl, rfl, trivial⟩
  · rw [hn, hP]
    cases bi <;> cases br
    · exact ⟨bis_mem, bis_kn, bis_mAt rfl rfl, rfl, rfl, trivial⟩
    · exact ⟨bis_mem, bis_kn, bis_mAt rfl rfl, rfl, rfl, bis_rgB, trivial⟩
    · exact ⟨bis_mem, bis_kn, bis_mAt rfl rfl, rfl, rfl, bis_inB, trivial⟩
    · exact ⟨bis_mem, bis_kn, bis_mAt rfl rfl, rfl, rfl, bis_inB, bis_rgB, trivial⟩
  refine in8_0 hP hn (cl_ctx hcl _) m (newM 0 L inp (L + 256)) hb hr hR ?_
  rw [<- show m = setsM (newM 0 L inp (L + 256)) rg R from hm]
  show XWP E.toEnv (.region x8_31) _ (T8 bi br p q L C R RC inp rg m m 90 91 92 0 R)
  have ec := q8_c0 bi br p q L C R RC inp rg m m R hb hr
  refine xwp_toEnd (s := T8 bi br p q L C R RC inp rg m m 90 91 92 0 R) (cl_blockP (cl_seqP hcl)) (hP ▸ FOK) 1000 ec ⟨mkT [33, 5, 7, 0, 1] [.int .i64 0, pAt 60, pAt 61, vI bi 0 L C, vR br R RC], mkH (m.HA 90 91 92 ++ ([(61, .var (arr8 1))] ++ (ms8 m 0 ++ ([(60, box8 p q)] ++ exIn bi br L inp R rg)))), 130⟩ ⟨_, _, _, rfl, ?_, ?_, ?_⟩ ?_
  · rw [hn]; cases bi <;> cases br <;> rfl
  · rw [hn]; cases bi <;> cases br <;> exact ⟨rfl, rfl, rfl, rfl, rfl, trivial⟩
  · rw [hn, hP]
    cases bi <;> cases br
    · exact ⟨bis_mem, bis_kn, bis_mAt rfl rfl, rfl, rfl, trivial⟩
    · exact ⟨bis_mem, bis_kn, bis_mAt rfl rfl, rfl, rfl, bis_rgB, trivial⟩
    · exact ⟨bis_mem, bis_kn, bis_mAt rfl rfl, rfl, rfl, bis_inB, trivial⟩
    · exact ⟨bis_mem, bis_kn, bis_mAt rfl rfl, rfl, rfl, bis_inB, bis_rgB, trivial⟩
  show XWP E.toEnv (.region x8_37) Q _
  refine XWP.wk (wk_sub (has_sub (A := ms8 m 1 ++ ([(60, box8 p q), (61, .var (arr8 1))] ++ exIn bi br L inp R rg)) ?_)) hQ
  cases bi <;> cases br <;> exact ⟨rfl, rfl, rfl, rfl, rfl, by first | exact trivial | exact ⟨rfl, trivial⟩ | exact ⟨rfl, rfl, trivial⟩⟩
theorem r8_1 (hQ : XWP E.toEnv (.region x8_37) Q ⟨mkT [33, 5, 7, 0, 1] [.int .i64 1, pAt 60, pAt 61, vI bi 0 L C, vR br R RC], mkH (ms8 m 2 ++ ([(60, box8 p q), (61, .var (arr8 2))] ++ exIn bi br L inp R rg)), 130⟩) : XWP E.toEnv x8_40 Q (S8 bi br p q L C R RC inp rg m 1) := by
  have e := q8_a1 bi br p q L C R RC inp rg (newM 0 L inp (L + 256)) m (L + 256) hb hr
  have hsz : IntKind.i64.wrap ((L : Int) + 256) = ((L + 256 : Nat) : Int) := by rw [wrap_i (by omega) (by omega)]; omega
  rw [hsz, decP_true ⟨rfl, by cases bi <;> cases br <;> first | exact trivial | exact ⟨rfl, trivial⟩, c22_40 hb (by omega) (by omega)⟩] at e
  simp only [Bool.and_self, cond_true] at e
  refine xwp_toLoop (s := S8 bi br p q L C R RC inp rg m 1) (fokE hP _) 1000 e (T8 bi br p q L C R RC inp rg m (setsM (newM 0 L inp (L + 256)) rg 0) 93 94 95 1 0) ⟨_, (newM 0 L inp (L + 256)).HA 93 94 95 ++ (ms8 m 1 ++ ([(60, box8 p q), (61, .var (arr8 1))] ++ exIn bi br L inp R rg)), 130, rfl, ?_, ?_, ?_⟩ ?_
  · rw [hn]; cases bi <;> cases br <;> rfl
  · rw [hn]; cases bi <;> cases br <;> exact ⟨rfl, rfl, rfl, rfl, rfl, rfl, rfl, rfl, rfl, rfl, trivial⟩
  · rw [hn, hP]
    cases bi <;> cases br
    · exact ⟨bis_mem, bis_kn, bis_mAt rfl rfl, bis_mem, bis_kn, bis_mAt rfl rfl, rfl, rfl, trivial⟩
    · exact ⟨bis_mem, bis_kn, bis_mAt rfl rfl, bis_mem, bis_kn, bis_mAt rfl rfl, rfl, rfl, bis_rgB, trivial⟩
    · exact ⟨bis_mem, bis_kn, bis_mAt rfl rfl, bis_mem, bis_kn, bis_mAt rfl rfl, rfl, rfl, bis_inB, trivial⟩
    · exact ⟨bis_mem, bis_kn, bis_mAt rfl rfl, bis_mem, bis_kn, bis_mAt rfl rfl, rfl, rfl, bis_inB, bis_rgB, trivial⟩
  refine in8_1 hP hn (cl_ctx hcl _) m (newM 0 L inp (L + 256)) hb hr hR ?_
  rw [<- show m = setsM (newM 0 L inp (L + 256)) rg R from hm]
  show XWP E.toEnv (.region x8_31) _ (T8 bi br p q L C R RC inp rg m m 93 94 95 1 R)
  have ec := q8_c1 bi br p q L C R RC inp rg m m R hb hr
  refine xwp_toEnd (s := T8 bi br p q L C R RC inp rg m m 93 94 95 1 R) (cl_blockP (cl_seqP hcl)) (hP ▸ FOK) 1000 ec ⟨mkT [33, 5, 7, 0, 1] [.int .i64 1, pAt 60, pAt 61, vI bi 0 L C, vR br R RC], mkH (m.HA 93 94 95 ++ ([(61, .var (arr8 2))] ++ (ms8 m 1 ++ ([(60, box8 p q)] ++ exIn bi br L inp R rg)))), 130⟩ ⟨_, _, _, rfl, ?_, ?_, ?_⟩ ?_
  · rw [hn]; cases bi <;> cases br <;> rfl
  · rw [hn]; cases bi <;> cases br <;> exact ⟨rfl, rfl, rfl, rfl, rfl, trivial⟩
  · rw [hn, hP]
    cases bi <;> cases br
    · exact ⟨bis_mem, bis_kn, bis_mAt rfl rfl, rfl, bis_mem, bis_kn, bis_mAt rfl rfl, rfl, trivial⟩
    · exact ⟨bis_mem, bis_kn, bis_mAt rfl rfl, rfl, bis_mem, bis_kn, bis_mAt rfl rfl, rfl, bis_rgB, trivial⟩
    · exact ⟨bis_mem, bis_kn, bis_mAt rfl rfl, rfl, bis_mem, bis_kn, bis_mAt rfl rfl, rfl, bis_inB, trivial⟩
    · exact ⟨bis_mem, bis_kn, bis_mAt rfl rfl, rfl, bis_mem, bis_kn, bis_mAt rfl rfl, rfl, bis_inB, bis_rgB, trivial⟩
  show XWP E.toEnv (.region x8_37) Q _
  refine XWP.wk (wk_sub (has_sub (A := ms8 m 2 ++ ([(60, box8 p q), (61, .var (arr8 2))] ++ exIn bi br L inp R rg)) ?_)) hQ
  cases bi <;> cases br <;> exact ⟨rfl, rfl, rfl, rfl, rfl, rfl, rfl, rfl, by first | exact trivial | exact ⟨rfl, trivial⟩ | exact ⟨rfl, rfl, trivial⟩⟩
theorem r8_2 (hQ : XWP E.toEnv (.region x8_37) Q ⟨mkT [33, 5, 7, 0, 1] [.int .i64 2, pAt 60, pAt 61, vI bi 0 L C, vR br R RC], mkH (ms8 m 3 ++ ([(60, box8 p q), (61, .var (arr8 3))] ++ exIn bi br L inp R rg)), 130⟩) : XWP E.toEnv x8_40 Q (S8 bi br p q L C R RC inp rg m 2) := by
  have e := q8_a2 bi br p q L C R RC inp rg (newM 0 L inp (L + 256)) m (L + 256) hb hr
  have hsz : IntKind.i64.wrap ((L : Int) + 256) = ((L + 256 : Nat) : Int) := by rw [wrap_i (by omega) (by omega)]; omega
  rw [hsz, decP_true ⟨rfl, by cases bi <;> cases br <;> first | exact trivial | exact ⟨rfl, trivial⟩, c22_40 hb (by omega) (by omega)⟩] at e
  simp only [Bool.and_self, cond_true] at e
  refine xwp_toLoop (s := S8 bi br p q L C R RC inp rg m 2) (fokE hP _) 1000 e (T8 bi br p q L C R RC inp rg m (setsM (newM 0 L inp (L + 256)) rg 0) 96 97 98 2 0) ⟨_, (newM 0 L inp (L + 256)).HA 96 97 98 ++ (ms8 m 2 ++ ([(60, box8 p q), (61, .var (arr8 2))] ++ exIn bi br L inp R rg)), 130, rfl, ?_, ?_, ?_⟩ ?_
  · rw [hn]; cases bi <;> cases br <;> rfl
  · rw [hn]; cases bi <;> cases br <;> exact ⟨rfl, rfl, rfl, rfl, rfl, rfl, rfl, rfl, rfl, rfl, trivial⟩
  · rw [hn, hP]
    cases bi <;> cases br
    · exact ⟨bis_mem, bis_kn, bis_mAt rfl rfl, bis_mem, bis_kn, bis_mAt rfl rfl, bis_mem, bis_kn, bis_mAt rfl rfl, rfl, rfl, trivial⟩
    · exact ⟨bis_mem, bis_kn, bis_mAt rfl rfl, bis_mem, bis_kn, bis_mAt rfl rfl, bis_mem, bis_kn, bis_mAt rfl rfl, rfl, rfl, bis_rgB, trivial⟩
    · exact ⟨bis_mem, bis_kn, bis_mAt rfl rfl, bis_mem, bis_kn, bis_mAt rfl rfl, bis_mem, bis_kn, bis_mAt rfl rfl, rfl, rfl, bis_inB, trivial⟩
    · exact ⟨bis_mem, bis_kn, bis_mAt rfl rfl, bis_mem, bis_kn, bis_mAt rfl rfl, bis_mem, bis_kn, bis_mAt rfl rfl, rfl, rfl, bis_inB, bis_rgB, trivial⟩
  refine in8_2 hP hn (cl_ctx hcl _) m (newM 0 L inp (L + 256)) hb hr hR ?_
  rw [<- show m = setsM (newM 0 L inp (L + 256)) rg R from hm]
  show XWP E.toEnv (.region x8_31) _ (T8 bi br p q L C R RC inp rg m m 96 97 98 2 R)
  have ec := q8_c2 bi br p q L C R RC inp rg m m R hb hr
  refine xwp_toEnd (s := T8 bi br p q L C R RC inp rg m m 96 97 98 2 R) (cl_blockP (cl_seqP hcl)) (hP ▸ FOK) 1000 ec ⟨mkT [33, 5, 7, 0, 1] [.int .i64 2, pAt 60, pAt 61, vI bi 0 L C, vR br R RC], mkH (m.HA 96 97 98 ++ ([(61, .var (arr8 3))] ++ (ms8 m 2 ++ ([(60, box8 p q)] ++ exIn bi br L inp R rg)))), 130⟩ ⟨_, _, _, rfl, ?_, ?_, ?_⟩ ?_
  · rw [hn]; cases bi <;> cases br <;> rfl
  · rw [hn]; cases bi <;> cases br <;> exact ⟨rfl, rfl, rfl, rfl, rfl, trivial⟩
  · rw [hn, hP]
    cases bi <;> cases br
    · exact ⟨bis_mem, bis_kn, bis_mAt rfl rfl, rfl, bis_mem, bis_kn, bis_mAt rfl rfl, bis_mem, bis_kn, bis_mAt rfl rfl, rfl, trivial⟩
    · exact ⟨bis_mem, bis_kn, bis_mAt rfl rfl, rfl, bis_mem, bis_kn, bis_mAt rfl rfl, bis_mem, bis_kn, bis_mAt rfl rfl, rfl, bis_rgB, trivial⟩
    · exact ⟨bis_mem, bis_kn, bis_mAt rfl rfl, rfl, bis_mem, bis_kn, bis_mAt rfl rfl, bis_mem, bis_kn, bis_mAt rfl rfl, rfl, bis_inB, trivial⟩
    · exact ⟨bis_mem, bis_kn, bis_mAt rfl rfl, rfl, bis_mem, bis_kn, bis_mAt rfl rfl, bis_mem, bis_kn, bis_mAt rfl rfl, rfl, bis_inB, bis_rgB, trivial⟩
  show XWP E.toEnv (.region x8_37) Q _
  refine XWP.wk (wk_sub (has_sub (A := ms8 m 3 ++ ([(60, box8 p q), (61, .var (arr8 3))] ++ exIn bi br L inp R rg)) ?_)) hQ
  cases bi <;> cases br <;> exact ⟨rfl, rfl, rfl, rfl, rfl, rfl, rfl, rfl, rfl, rfl, rfl, by first | exact trivial | exact ⟨rfl, trivial⟩ | exact ⟨rfl, rfl, trivial⟩⟩
theorem loop8 (hQ : Q (.exit 0) (X8 bi br p q L R inp rg m)) : XWP E.toEnv (.loop x8_40) Q (S8 bi br p q L C R RC inp rg m 0) := by
  refine xwp_loopR (ι := Nat) (fun i => S8 bi br p q L C R RC inp rg m i) (fun i => i <= 3) (fun i => 3 - i) 0 (by omega) fun i hi => ?_
  have hcr := cl_round (S := fun i => S8 bi br p q L C R RC inp rg m i) (I := fun i => i <= 3) (μ := fun i => 3 - i) (i := i) hcl
  match i, hi with
  | 0, _ =>
    refine r8_0 hP hn hcr hm hb hr hR hL ?_
    have ed := q8_d0 bi br p q L C R RC inp rg m hb hr
    refine xwp_toEnd (s := ⟨_, _, _⟩) hcr (hP ▸ FOK) 1000 ed (S8 bi br p q L C R RC inp rg m 1) ⟨_, ms8 m 1 ++ ([(60, box8 p q), (61, .var (arr8 1))] ++ exIn bi br L inp R rg), 130, rfl, ?_, ?_, ?_⟩ ⟨1, by omega, by simp, Wk.refl _ _⟩ <;> rw [hn]
    · cases bi <;> cases br <;> rfl
    · cases bi <;> cases br <;> exact ⟨rfl, rfl, rfl, rfl, rfl, trivial⟩
    · rw [hP]
      cases bi <;> cases br
      · exact ⟨bis_mem, bis_kn, bis_mAt rfl rfl, rfl, rfl, trivial⟩
      · exact ⟨bis_mem, bis_kn, bis_mAt rfl rfl, rfl, rfl, bis_rgB, trivial⟩
      · exact ⟨bis_mem, bis_kn, bis_mAt rfl rfl, rfl, rfl, bis_inB, trivial⟩
      · exact ⟨bis_mem, bis_kn, bis_mAt rfl rfl, rfl, rfl, bis_inB, bis_rgB, trivial⟩
  | 1, _ =>
    refine r8_1 hP hn hcr hm hb hr hR hL ?_
    have ed := q8_d1 bi br p q L C R RC inp rg m hb hr
    refine xwp_toEnd (s := ⟨_, _, _⟩) hcr (hP ▸ FOK) 1000 ed (S8 bi br p q L C R RC inp rg m 2) ⟨_, ms8 m 2 ++ ([(60, box8 p q), (61, .var (arr8 2))] ++ exIn bi br L inp R rg), 130, rfl, ?_, ?_, ?_⟩ ⟨2, by omega, by simp, Wk.refl _ _⟩ <;> rw [hn]
    · cases bi <;> cases br <;> rfl
    · cases bi <;> cases br <;> exact ⟨rfl, rfl, rfl, rfl, rfl, trivial⟩
    · rw [hP]
      cases bi <;> cases br
      · exact ⟨bis_mem, bis_kn, bis_mAt rfl rfl, bis_mem, bis_kn, bis_mAt rfl rfl, rfl, rfl, trivial⟩
      · exact ⟨bis_mem, bis_kn, bis_mAt rfl rfl, bis_mem, bis_kn, bis_mAt rfl rfl, rfl, rfl, bis_rgB, trivial⟩
      · exact ⟨bis_mem, bis_kn, bis_mAt rfl rfl, bis_mem, bis_kn, bis_mAt rfl rfl, rfl, rfl, bis_inB, trivial⟩
      · exact ⟨bis_mem, bis_kn, bis_mAt rfl rfl, bis_mem, bis_kn, bis_mAt rfl rfl, rfl, rfl, bis_inB, bis_rgB, trivial⟩
  | 2, _ =>
    refine r8_2 hP hn hcr hm hb hr hR hL ?_
    have ed := q8_d2 bi br p q L C R RC inp rg m hb hr
    refine xwp_toEnd (s := ⟨_, _, _⟩) hcr (hP ▸ FOK) 1000 ed (S8 bi br p q L C R RC inp rg m 3) ⟨_, ms8 m 3 ++ ([(60, box8 p q), (61, .var (arr8 3))] ++ exIn bi br L inp R rg), 130, rfl, ?_, ?_, ?_⟩ ⟨3, by omega, by simp, Wk.refl _ _⟩ <;> rw [hn]
    · cases bi <;> cases br <;> rfl
    · cases bi <;> cases br <;> exact ⟨rfl, rfl, rfl, rfl, rfl, trivial⟩
    · rw [hP]
      cases bi <;> cases br
      · exact ⟨bis_mem, bis_kn, bis_mAt rfl rfl, bis_mem, bis_kn, bis_mAt rfl rfl, bis_mem, bis_kn, bis_mAt rfl rfl, rfl, rfl, trivial⟩
      · exact ⟨bis_mem, bis_kn, bis_mAt rfl rfl, bis_mem, bis_kn, bis_mAt rfl rfl, bis_mem, bis_kn, bis_mAt rfl rfl, rfl, rfl, bis_rgB, trivial⟩
      · exact ⟨bis_mem, bis_kn, bis_mAt rfl rfl, bis_mem, bis_kn, bis_mAt rfl rfl, bis_mem, bis_kn, bis_mAt rfl rfl, rfl, rfl, bis_inB, trivial⟩
      · exact ⟨bis_mem, bis_kn, bis_mAt rfl rfl, bis_mem, bis_kn, bis_mAt rfl rfl, bis_mem, bis_kn, bis_mAt rfl rfl, rfl, rfl, bis_inB, bis_rgB, trivial⟩
  | 3, _ =>
    have ex := q8_x bi br p q L C R RC inp rg m hb hr
    refine xwp_toEnd (s := S8 bi br p q L C R RC inp rg m 3) hcr (hP ▸ FOK) 1000 ex (X8 bi br p q L R inp rg m) ⟨_, ms8 m 3 ++ ([(60, box8 p q), (61, .var (arr8 3))] ++ exIn bi br L inp R rg), 130, rfl, ?_, ?_, ?_⟩ hQ <;> rw [hn]
    · cases bi <;> cases br <;> rfl
    · cases bi <;> cases br <;> exact ⟨rfl, rfl, trivial⟩
    · rw [hP]
      cases bi <;> cases br
      · exact ⟨bis_mem, bis_kn, bis_mAt rfl rfl, bis_mem, bis_kn, bis_mAt rfl rfl, bis_mem, bis_kn, bis_mAt rfl rfl, rfl, rfl, trivial⟩
      · exact ⟨bis_mem, bis_kn, bis_mAt rfl rfl, bis_mem, bis_kn, bis_mAt rfl rfl, bis_mem, bis_kn, bis_mAt rfl rfl, rfl, rfl, bis_rgB, trivial⟩
      · exact ⟨bis_mem, bis_kn, bis_mAt rfl rfl, bis_mem, bis_kn, bis_mAt rfl rfl, bis_mem, bis_kn, bis_mAt rfl rfl, rfl, rfl, bis_inB, trivial⟩
      · exact ⟨bis_mem, bis_kn, bis_mAt rfl rfl, bis_mem, bis_kn, bis_mAt rfl rfl, bis_mem, bis_kn, bis_mAt rfl rfl, rfl, rfl, bis_inB, bis_rgB, trivial⟩
  | i + 4, h => omega
end
end Go.X
namespace Go.X
open Go Go.Proofs
theorem wrap_wrap (a b : Int) : IntKind.i64.wrap (IntKind.i64.wrap a + b) = IntKind.i64.wrap (a + b) := by
  simp only [IntKind.wrap, IntKind.bits, IntKind.signed]
  simp
  omega
theorem wrap_wrap' (a b : Int) : IntKind.i64.wrap (a + IntKind.i64.wrap b) = IntKind.i64.wrap (a + b) := by
  rw [Int.add_comm, wrap_wrap, Int.add_comm]
theorem wrap_idem (a : Int) : IntKind.i64.wrap (IntKind.i64.wrap a) = IntKind.i64.wrap a := by
  have := wrap_wrap a 0
  simpa using this
theorem runF_add {step : RSt -> Bool × RSt} (b : Nat) : ∀ (a n : Nat) (s : RSt), runF step (a + b) s n = runF step b (runF step a s n).1 (runF step a s n).2
  | 0, n, s => by rw [Nat.zero_add]; rfl
  | a + 1, n, s => by
    rw [show a + 1 + b = (a + b) + 1 by omega]
    cases h0 : s.m.st == 0 with
    | false => rw [runF_end h0, runF_end h0, runF_end h0]
    | true =>
      obtain ⟨ok, s', hs⟩ : ∃ ok s', step s = (ok, s') := ⟨_, _, rfl⟩
      cases ok with
      | false => rw [runF_no h0 hs, runF_no h0 hs, runF_end (show (s'.stop.m.st == 0) = false from rfl)]
      | true => rw [runF_go h0 hs, runF_go h0 hs, runF_add b a (n + 1) s']
structure RelR (o1 : Nat) (of1 : Nat -> Int) (mk1 : Int) (s t : RSt) : Prop where
  m : s.m = t.m
  oN : s.oN = o1 + t.oN
  of : ∀ j, j < s.oN -> s.of j = bif Nat.blt j o1 then of1 j else t.of (j - o1)
  mark : s.mark = IntKind.i64.wrap (mk1 + t.mark)
structure RelS (n1 : Nat) (sf1 : Nat -> List Value) (s t : RSt) : Prop where
  m : s.m = t.m
  sN : s.sN = n1 + t.sN
  sf : ∀ j, j < s.sN -> s.sf j = bif Nat.blt j n1 then sf1 j else t.sf (j - n1)
theorem blt_ff {a b : Nat} (h : ¬ a < b) : Nat.blt a b = false := by rw [blt_dec]; simp; omega
section
variable {o1 : Nat} {of1 : Nat -> Int} {mk1 : Int} {n1 : Nat} {sf1 : Nat -> List Value}
theorem outMore_rel {s t : RSt} (h : RelR o1 of1 mk1 s t) (v : Int) : ∀ j, j < s.oN + 1 -> outMore s.of s.oN v j = bif Nat.blt j o1 then of1 j else outMore t.of t.oN v (j - o1) := fun j hj => by
  show (bif Nat.blt j s.oN then s.of j else v) = bif Nat.blt j o1 then of1 j else (bif Nat.blt (j - o1) t.oN then t.of (j - o1) else v)
  have hN := h.oN
  by_cases h1 : j < s.oN
  · rw [lt_blt h1, cond_true, h.of j h1]
    by_cases h2 : j < o1
    · rw [lt_blt h2]; rfl
    · rw [blt_ff h2, lt_blt (show j - o1 < t.oN by omega)]; rfl
  · rw [blt_ff h1, blt_ff (show ¬ j < o1 by omega), blt_ff (show ¬ j - o1 < t.oN by omega)]; rfl
theorem seMore_rel {s t : RSt} (h : RelS n1 sf1 s t) (r : List Value) : ∀ j, j < s.sN + 1 -> seMore s.sf s.sN r j = bif Nat.blt j n1 then sf1 j else seMore t.sf t.sN r (j - n1) := fun j hj => by
  show (bif Nat.blt j s.sN then s.sf j else r) = bif Nat.blt j n1 then sf1 j else (bif Nat.blt (j - n1) t.sN then t.sf (j - n1) else r)
  have hN := h.sN
  by_cases h1 : j < s.sN
  · rw [lt_blt h1, cond_true, h.sf j h1]
    by_cases h2 : j < n1
    · rw [lt_blt h2]; rfl
    · rw [blt_ff h2, lt_blt (show j - n1 < t.sN by omega)]; rfl
  · rw [blt_ff h1, blt_ff (show ¬ j < n1 by omega), blt_ff (show ¬ j - n1 < t.sN by omega)]; rfl
theorem markF_rel {s t : RSt} (h : RelR o1 of1 mk1 s t) (op : Int) (c : Cand) : markF op c s.mark = IntKind.i64.wrap (mk1 + markF op c t.mark) := by
  unfold markF
  cases markB op c with
  | false => exact h.mark
  | true =>
    simp only [cond_true]
    rw [h.mark, wrap_wrap, wrap_wrap', Int.add_assoc]
theorem step_relR (w w' : Bool) {s t : RSt} (h : RelR o1 of1 mk1 s t) : (stepF (e0 w) s).1 = (stepF (e0 w') t).1 /\ RelR o1 of1 mk1 (stepF (e0 w) s).2 (stepF (e0 w') t).2 := by
  unfold stepF stepG
  rw [<- h.m]
  cases plB s.m.sz s.m.pl 4 with
  | false => exact ⟨rfl, h⟩
  | true =>
    simp only [cond_true]
    cases (decA (w32 s.m)).err == 0 with
    | false => exact ⟨rfl, h⟩
    | true =>
      simp only [cond_true]
      cases plainB (decA (w32 s.m)).q with
      | true => exact ⟨rfl, rfl, h.oN, h.of, markF_rel h _ _⟩
      | false =>
        simp only [cond_false]
        cases (decA (w32 s.m)).q == 55 with
        | true =>
          simp only [cond_true]
          unfold callR
          rw [<- h.m]
          cases s.m.x 17 == 1 with
          | true => exact ⟨rfl, rfl, by show s.oN + 1 = o1 + (t.oN + 1); rw [h.oN]; omega, outMore_rel h _, h.mark⟩
          | false =>
            cases s.m.x 17 == 2 with
            | true => exact ⟨rfl, rfl, h.oN, h.of, h.mark⟩
            | false => cases (s.m.x 17 == 3 || (s.m.x 17 == 4 || s.m.x 17 == 5)) <;> exact ⟨rfl, rfl, h.oN, h.of, h.mark⟩
        | false =>
          simp only [cond_false]
          unfold memF
          rw [<- h.m]
          cases plB s.m.sz (atM s.m (decA (w32 s.m)).c) (sizeF (decA (w32 s.m)).q) <;> exact ⟨rfl, rfl, h.oN, h.of, h.mark⟩
theorem step_relS {s t : RSt} (h : RelS n1 sf1 s t) : (stepF (e0 true) s).1 = (stepF (e0 true) t).1 /\ RelS n1 sf1 (stepF (e0 true) s).2 (stepF (e0 true) t).2 := by
  unfold stepF stepG
  rw [<- h.m]
  cases plB s.m.sz s.m.pl 4 with
  | false => exact ⟨rfl, h⟩
  | true =>
    simp only [cond_true]
    cases (decA (w32 s.m)).err == 0 with
    | false => exact ⟨rfl, h⟩
    | true =>
      simp only [cond_true]
      cases plainB (decA (w32 s.m)).q with
      | true => exact ⟨rfl, rfl, h.sN, h.sf⟩
      | false =>
        simp only [cond_false]
        cases (decA (w32 s.m)).q == 55 with
        | true =>
          simp only [cond_true]
          unfold callR
          rw [<- h.m]
          cases s.m.x 17 == 1 with
          | true => exact ⟨rfl, rfl, h.sN, h.sf⟩
          | false =>
            cases s.m.x 17 == 2 with
            | true => exact ⟨rfl, rfl, h.sN, h.sf⟩
            | false => cases (s.m.x 17 == 3 || (s.m.x 17 == 4 || s.m.x 17 == 5)) <;> exact ⟨rfl, rfl, h.sN, h.sf⟩
        | false =>
          simp only [cond_false]
          unfold memF
          rw [<- h.m]
          cases plB s.m.sz (atM s.m (decA (w32 s.m)).c) (sizeF (decA (w32 s.m)).q) with
          | false => exact ⟨rfl, rfl, h.sN, h.sf⟩
          | true => exact ⟨rfl, rfl, by show s.sN + 1 = n1 + (t.sN + 1); rw [h.sN]; omega, seMore_rel h _⟩
theorem run_relR (w w' : Bool) : ∀ (k n n' : Nat) (s t : RSt), RelR o1 of1 mk1 s t -> RelR o1 of1 mk1 (runF (stepF (e0 w)) k s n).1 (runF (stepF (e0 w')) k t n').1 /\ (runF (stepF (e0 w)) k s n).2 + n' = (runF (stepF (e0 w')) k t n').2 + n
  | 0, n, n', s, t, h => ⟨h, Nat.add_comm _ _⟩
  | k + 1, n, n', s, t, h => by
    cases h0 : s.m.st == 0 with
    | false => rw [runF_end h0, runF_end (by rw [<- h.m]; exact h0)]; exact ⟨h, Nat.add_comm _ _⟩
    | true =>
      obtain ⟨g1, g2⟩ := step_relR w w' h
      obtain ⟨ok, s', hs⟩ : ∃ ok s', stepF (e0 w) s = (ok, s') := ⟨_, _, rfl⟩
      obtain ⟨ok', t', ht⟩ : ∃ ok s', stepF (e0 w') t = (ok, s') := ⟨_, _, rfl⟩
      rw [hs, ht] at g1 g2
      simp only at g1 g2
      subst g1
      have h0' : (t.m.st == 0) = true := by rw [<- h.m]; exact h0
      cases ok with
      | false => rw [runF_no h0 hs, runF_no h0' ht]; exact ⟨⟨congrArg stopM g2.m, g2.oN, g2.of, g2.mark⟩, Nat.add_comm _ _⟩
      | true =>
        rw [runF_go h0 hs, runF_go h0' ht]
        obtain ⟨a, b⟩ := run_relR w w' k (n + 1) (n' + 1) s' t' g2
        exact ⟨a, by omega⟩
theorem run_relS : ∀ (k n n' : Nat) (s t : RSt), RelS n1 sf1 s t -> RelS n1 sf1 (runF (stepF (e0 true)) k s n).1 (runF (stepF (e0 true)) k t n').1
  | 0, n, n', s, t, h => h
  | k + 1, n, n', s, t, h => by
    cases h0 : s.m.st == 0 with
    | false => rw [runF_end h0, runF_end (by rw [<- h.m]; exact h0)]; exact h
    | true =>
      obtain ⟨g1, g2⟩ := step_relS h
      obtain ⟨ok, s', hs⟩ : ∃ ok s', stepF (e0 true) s = (ok, s') := ⟨_, _, rfl⟩
      obtain ⟨ok', t', ht⟩ : ∃ ok s', stepF (e0 true) t = (ok, s') := ⟨_, _, rfl⟩
      rw [hs, ht] at g1 g2
      simp only at g1 g2
      subst g1
      have h0' : (t.m.st == 0) = true := by rw [<- h.m]; exact h0
      cases ok with
      | false => rw [runF_no h0 hs, runF_no h0' ht]; exact ⟨congrArg stopM g2.m, g2.sN, g2.sf⟩
      | true =>
        rw [runF_go h0 hs, runF_go h0' ht]
        exact run_relS k (n + 1) (n' + 1) s' t' g2
end
theorem step_mark (w : Bool) {s : RSt} (h : IntKind.i64.wrap s.mark = s.mark) : IntKind.i64.wrap (stepF (e0 w) s).2.mark = (stepF (e0 w) s).2.mark := by
  have h1 : RelR s.oN s.of 0 s { s with oN := 0, of := fun _ => 0 } := ⟨rfl, rfl, fun j hj => by rw [lt_blt hj]; rfl, by show s.mark = IntKind.i64.wrap (0 + s.mark); rw [Int.zero_add, h]⟩
  have h2 := (step_relR w w h1).2.mark
  rw [h2, wrap_idem]
theorem run_mark (w : Bool) : ∀ (k n : Nat) (s : RSt), IntKind.i64.wrap s.mark = s.mark -> IntKind.i64.wrap (runF (stepF (e0 w)) k s n).1.mark = (runF (stepF (e0 w)) k s n).1.mark
  | 0, n, s, h => h
  | k + 1, n, s, h => by
    cases h0 : s.m.st == 0 with
    | false => rw [runF_end h0]; exact h
    | true =>
      have hm := step_mark w h
      obtain ⟨ok, s', hs⟩ : ∃ ok s', stepF (e0 w) s = (ok, s') := ⟨_, _, rfl⟩
      rw [hs] at hm
      cases ok with
      | false => rw [runF_no h0 hs]; exact hm
      | true => rw [runF_go h0 hs]; exact run_mark w k (n + 1) s' hm
structure Parts (m : MS) (a b : Nat) (al x y z : RSt) (na nx ny nz : Nat) : Prop where
  m1 : al.m = y.m
  m2 : al.m = z.m
  n1 : na = nx + ny
  n2 : na = nz
  o1 : al.oN = x.oN + y.oN
  of1 : ∀ j, j < al.oN -> al.of j = bif Nat.blt j x.oN then x.of j else y.of (j - x.oN)
  o2 : al.oN = z.oN
  of2 : ∀ j, j < al.oN -> al.of j = z.of j
  mk1 : al.mark = IntKind.i64.wrap (x.mark + y.mark)
  mk2 : al.mark = z.mark
  s1 : z.sN = x.sN + y.sN
  sf1 : ∀ j, j < z.sN -> z.sf j = bif Nat.blt j x.sN then x.sf j else y.sf (j - x.sN)
theorem parts {m : MS} {a b : Nat} {al x y z : RSt} {na nx ny nz : Nat} (hal : runM false m (a + b) = (al, na)) (hx : runM true m a = (x, nx)) (hy : runM true x.m b = (y, ny)) (hz : runM true m (a + b) = (z, nz)) : Parts m a b al x y z na nx ny nz := by
  have hz0 := hz
  unfold runM at hal hx hy hz
  rw [runF_add b a 0 (RSt.init m), hx] at hz
  simp only at hz
  have hmx : IntKind.i64.wrap x.mark = x.mark := by
    have := run_mark true a 0 (RSt.init m) rfl
    rw [hx] at this; exact this
  have r0 : RelR x.oN x.of x.mark x (RSt.init x.m) := ⟨rfl, rfl, fun j hj => by rw [lt_blt hj]; rfl, by show x.mark = IntKind.i64.wrap (x.mark + 0); rw [Int.add_zero, hmx]⟩
  have s0 : RelS x.sN x.sf x (RSt.init x.m) := ⟨rfl, rfl, fun j hj => by rw [lt_blt hj]; rfl⟩
  obtain ⟨ra, rb⟩ := run_relR true true b nx 0 x (RSt.init x.m) r0
  have rs := run_relS b nx 0 x (RSt.init x.m) s0
  rw [hz, hy] at ra rb rs
  simp only at ra rb rs
  have i0 : RelR 0 (fun _ => 0) 0 (RSt.init m) (RSt.init m) := ⟨rfl, rfl, fun j hj => absurd hj (Nat.not_lt_zero _), rfl⟩
  obtain ⟨qa, qb⟩ := run_relR false true (a + b) 0 0 (RSt.init m) (RSt.init m) i0
  have hz1 : runF (stepF (e0 true)) (a + b) (RSt.init m) 0 = (z, nz) := hz0
  rw [hal, hz1] at qa qb
  simp only at qa qb
  have hoz : al.oN = z.oN := by have := qa.oN; omega
  have hmz : al.mark = z.mark := by
    have hz2 : IntKind.i64.wrap z.mark = z.mark := by
      have := run_mark true (a + b) 0 (RSt.init m) rfl
      rw [hz1] at this; exact this
    have := qa.mark
    rw [Int.zero_add, hz2] at this; exact this
  have hof : ∀ j, j < al.oN -> al.of j = z.of j := fun j hj => by
    have := qa.of j hj
    rw [blt_ff (Nat.not_lt_zero _), cond_false, Nat.sub_zero] at this; exact this
  exact ⟨qa.m.trans ra.m, qa.m, by omega, by omega, by rw [hoz]; exact ra.oN, fun j hj => by rw [hof j hj]; exact ra.of j (by omega), hoz, hof, by rw [hmz]; exact ra.mark, hmz, rs.sN, rs.sf⟩
end Go.X
