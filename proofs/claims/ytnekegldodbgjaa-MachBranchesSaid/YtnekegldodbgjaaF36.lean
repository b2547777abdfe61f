import Derived.Test.YtnekegldodbgjaaF35
set_option linter.all false
set_option linter.unusedVariables false
set_option linter.unusedSimpArgs false
namespace Go.X
open Go Go.Proofs
set_option linter.unusedVariables false
set_option linter.unusedSimpArgs false
theorem c23_at {N C : Nat} {J : Nat → Ins} {F : Ins → Int × Int} (hE : ∀ j, j < N → EncV (J j) (F (J j))) (hN : N ≤ 10000000000) {oN : Nat} {of : Nat → Int} (hb : byS F J N = (oN, of)) (hbo : bO oN = true) {T : Nat} (hT : N ≤ T) {f : Nat → List Value} {o r : Bool} (hf : ∀ j, j < T → f j = (J j).row)
    (b n : Nat) (hbn : b < n) : ADet Try.prog 23 [.slice (some ⟨b, 0, none⟩) N C] [(b, some (.rows T 5 f o r))] (newS n oN) (mkH [(n, outB oN of)]) n 1 := by
  have h : ADet Try.prog 23 [.slice (some ⟨b, 0, none⟩) N C] [(b, some (.rows T 5 f o true))] (newS n oN) (mkH [(n, outB oN of)]) n 1 := by
    have h41 : ∀ {σ : Nm}, BIs Try.prog σ (itB T J) (.rows T 5 f o true) := ⟨rfl, rfl, fun j hj => by rw [hf j hj]; rfl, .inr (.inr rfl), .inl rfl⟩
    have h41' : ∀ {σ : Nm}, BIs Try.prog σ (.rows T 5 f o true) (itB T J) := ⟨rfl, rfl, fun j hj => by rw [hf j hj]; rfl, .inr (.inl rfl), .inl rfl⟩
    have b1 := beq_ff (show n ≠ b by omega)
    have b2 := beq_ff (show b ≠ n by omega)
    have bn := beq_tt n
    have bb := beq_tt b
    have hbd := b23 (C := C) hE hT hN hb
    rw [hbo] at hbd
    have s1 : asc ([(n, 100)] ++ flip [(41, b)]) n = some 100 := by simp only [List.cons_append, asc, bn, cond_true]
    have s3 : asc ([(n, 100)] ++ flip [(41, b)]) b = some 41 := by simp only [List.cons_append, List.nil_append, flip, asc, b1, bb, cond_true, cond_false]
    refine adet_of_body hbd [(41, b)] [(n, 100)] ?_ rfl ?_ rfl ?_ ?_ ?_
    · refine (show ((Nat.blt 41 100 && Nat.beq b b && true) && ((Nat.ble n n && Nat.blt n (n + 1)) && true) && true && true) = true from ?_)
      simp [lt_blt]
    · refine ⟨?_, trivial⟩
      show (match hget [(b, some (Blk.rows T 5 f o true))] b with | some x => BIs Try.prog (asc [(41, b)]) (itB T J) x | none => False)
      simp only [hget, bb, cond_true]
      exact h41
    · show renP _ n 0 none _ = _
      simp only [renP, s1]; rfl
    · simp only [mkH, List.cons_append, List.nil_append, HsOK, natMem, b1, b2, bn, Bool.or_false, Bool.false_or]
      rw [show asc ((n, 100) :: flip [(41, b)]) n = some 100 from s1, show asc ((n, 100) :: flip [(41, b)]) b = some 41 from s3]
      exact ⟨bis_outB, h41', trivial⟩
    · simp only [mkH, List.cons_append, List.nil_append, namesOf, natMem, b1, b2, bn, Bool.or_false, Bool.false_or]
      rw [show asc ((n, 100) :: flip [(41, b)]) n = some 100 from s1, show asc ((n, 100) :: flip [(41, b)]) b = some 41 from s3]
      rfl
  cases r with
  | true => exact h
  | false => exact adet_demote h (by simp [mkH, fstL]; omega) rfl
theorem c22_at {L C sz : Nat} {inp : Nat → Int} (h1 : L ≤ sz) (h2 : sz ≤ 4194304) (b n : Nat) (hbn : b < n) {T : Nat} (hT : L ≤ T) {f : Nat → List Value} {o r : Bool} (hf : ∀ j, j < T → f j = [.int .u8 (inp j)]) :
    ADet Try.prog 22 [.slice (some ⟨b, 0, none⟩) L C, .int .i64 (sz : Int)] [(b, some (.rows T 1 f o r))] (vM3 (n + 2)) (mkH [(n, (newM 0 L inp sz).memB), (n + 1, (newM 0 L inp sz).kn.blk), (n + 2, (newM 0 L inp sz).mAt n (n + 1))]) n 3 := by
  have h : ADet Try.prog 22 [.slice (some ⟨b, 0, none⟩) L C, .int .i64 (sz : Int)] [(b, some (.rows T 1 f o true))] (vM3 (n + 2)) (mkH [(n, (newM 0 L inp sz).memB), (n + 1, (newM 0 L inp sz).kn.blk), (n + 2, (newM 0 L inp sz).mAt n (n + 1))]) n 3 := by
    have ha : ∀ {σ : Nm}, BIs Try.prog σ (inB T inp) (.rows T 1 f o true) := ⟨rfl, rfl, fun j hj => by rw [hf j hj]; rfl, .inr (.inr rfl), .inl rfl⟩
    have ha' : ∀ {σ : Nm}, BIs Try.prog σ (.rows T 1 f o true) (inB T inp) := ⟨rfl, rfl, fun j hj => by rw [hf j hj]; rfl, .inr (.inl rfl), .inl rfl⟩
    have hk : ∀ {σ : Nm}, BIs Try.prog σ (newM 0 L inp sz).kn.blk (newM 0 L inp sz).kn.blk := bis_kn
    have b1 := beq_ff (show n ≠ b by omega)
    have b2 := beq_ff (show n + 1 ≠ b by omega)
    have b3 := beq_ff (show n + 2 ≠ b by omega)
    have b4 := beq_ff (show b ≠ n by omega)
    have b5 := beq_ff (show b ≠ n + 1 by omega)
    have b6 := beq_ff (show b ≠ n + 2 by omega)
    have c1 := beq_ff (show n ≠ n + 1 by omega)
    have c2 := beq_ff (show n ≠ n + 2 by omega)
    have c3 := beq_ff (show n + 1 ≠ n + 2 by omega)
    have c4 := beq_ff (show n + 1 ≠ n by omega)
    have c5 := beq_ff (show n + 2 ≠ n by omega)
    have c6 := beq_ff (show n + 2 ≠ n + 1 by omega)
    have bn := beq_tt n
    have bn1 := beq_tt (n + 1)
    have bn2 := beq_tt (n + 2)
    have bb := beq_tt b
    have s1 : asc ((n, 100) :: (n + 1, 101) :: (n + 2, 102) :: flip [(40, b)]) n = some 100 := by simp only [asc, bn, cond_true]
    have s2 : asc ((n, 100) :: (n + 1, 101) :: (n + 2, 102) :: flip [(40, b)]) (n + 1) = some 101 := by simp only [asc, c1, bn1, cond_true, cond_false]
    have s3 : asc ((n, 100) :: (n + 1, 101) :: (n + 2, 102) :: flip [(40, b)]) (n + 2) = some 102 := by simp only [asc, c2, c3, bn2, cond_true, cond_false]
    have s4 : asc ((n, 100) :: (n + 1, 101) :: (n + 2, 102) :: flip [(40, b)]) b = some 40 := by simp only [flip, asc, b1, b2, b3, bb, cond_true, cond_false]
    refine adet_of_body (b22 (bi := true) (k := 0) (L := L) (C := C) (T := T) (sz := sz) (inp := inp) (fun h => by cases h) h1 h2 (fun _ => by omega)) [(40, b)] [(n, 100), (n + 1, 101), (n + 2, 102)] ?_ rfl ?_ rfl ?_ ?_ ?_
    · refine (show ((Nat.blt 40 100 && Nat.beq b b && true) && ((Nat.ble n n && Nat.blt n (n + 3)) && ((Nat.ble n (n + 1) && Nat.blt (n + 1) (n + 3)) && ((Nat.ble n (n + 2) && Nat.blt (n + 2) (n + 3)) && true))) && true && true) = true from ?_)
      simp [lt_blt]
    · refine ⟨?_, trivial⟩
      show (match hget [(b, some (Blk.rows T 1 f o true))] b with | some x => BIs Try.prog (asc [(40, b)]) (inB T inp) x | none => False)
      simp only [hget, bb, cond_true]
      exact ha
    · show (.tuple ⟨[renP _ (n + 2) 0 (some 0) _, .int .i64 0]⟩ : Value) = _
      simp only [List.cons_append, List.nil_append, renP, s3]
    · simp only [mkH, List.cons_append, List.nil_append, HsOK, natMem, b1, b2, b3, b4, b5, b6, c1, c2, c3, c4, c5, c6, bn, bn1, bn2, Bool.or_false, Bool.false_or]
      rw [s1, s2, s3, s4]
      exact ⟨bis_mem, hk, bis_mAt s1 s2, ha', trivial⟩
    · simp only [mkH, List.cons_append, List.nil_append, namesOf, natMem, b1, b2, b3, b4, b5, b6, c1, c2, c3, c4, c5, c6, bn, bn1, bn2, Bool.or_false, Bool.false_or]
      rw [s1, s2, s3, s4]
      rfl
  cases r with
  | true => exact h
  | false => exact adet_demote h (by simp [mkH, fstL]; omega) rfl
end Go.X
namespace Go.X
open Go Go.Proofs
set_option linter.unusedVariables false
set_option linter.unusedSimpArgs false
structure OKM (m : MS) : Prop where
  sz : szB m.sz = true
  pl : uB m.pl = true
  x : ∀ j, uB (m.x j) = true
  kn : m.kn.OK
theorem base7 {m : MS} (h : OKM m) : BaseOK e7 0 (RSt.init m) := ⟨h.sz, h.pl, h.x, h.kn, fun j hj => absurd hj (Nat.not_lt_zero _), Nat.le_refl _, Nat.le_refl _, Nat.le_refl _, Nat.le_refl _⟩
theorem run1x {m : MS} (hm : OKM m) (hst : m.st = 0) {op : Int} {c : Cand} (hp : plB m.sz m.pl 4 = true) (hd : decA (w32 m) = ⟨op, c, 0⟩) (ho : plainB op = true) :
    OKM (stepM m m.kn' op c) ∧ AtN 24 [pM, .slice none 0 0, .int .i64 1] m.H (resV24 (stepM m m.kn' op c) (vOa 111 false 0) 1 (markF op c 0)) (upd24a (stepM m m.kn' op c) false 0 (fun _ => 0) 1 (markF op c 0)) 110 2 := by
  have hs1 : stepG noMem e7 (RSt.init m) = (true, { RSt.init m with m := stepM m m.kn' op c, mark := markF op c 0 }) := by
    show (bif plB m.sz m.pl 4 then
      (bif (decA (w32 m)).err == 0 then
        (bif plainB (decA (w32 m)).q then (true, { RSt.init m with m := stepM m m.kn' (decA (w32 m)).q (decA (w32 m)).c, mark := markF (decA (w32 m)).q (decA (w32 m)).c 0 })
        else bif (decA (w32 m)).q == 55 then callR e7 (RSt.init m) m.kn' else noMem e7 (RSt.init m) (decA (w32 m)))
      else (false, RSt.init m))
    else (false, RSt.init m)) = _
    rw [hp, hd]
    simp only [cond_true, ho, beq_self_eq_true]
  have hno : ¬ (38 ≤ (decA (w32 m)).q ∧ (decA (w32 m)).q ≤ 44) := by
    rw [hd]
    simp only [plainB, Bool.or_eq_true, Bool.and_eq_true, decide_eq_true_eq] at ho
    show ¬ (38 ≤ op ∧ op ≤ 44)
    omega
  obtain ⟨nx, nb⟩ := (next_of (base7 hm) (by omega) (decU_all _) (noMem_ok hno)).1 hs1
  have H : Steps48 e7 1 (stepG noMem e7) (fun n s => BaseOK e7 n s ∧ (n = 0 → s = RSt.init m)) := by
    refine ⟨fun n s h => h.1.se, fun n s s' h hlt h0 hs => ?_, fun n s s' h hlt h0 hs => ?_⟩
    · have hn : n = 0 := by omega
      subst hn
      have := h.2 rfl
      subst this
      rw [hs1] at hs
      cases hs
      exact ⟨nx, nb, fun h => by cases h⟩
    · have hn : n = 0 := by omega
      subst hn
      have := h.2 rfl
      subst this
      rw [hs1] at hs
      cases hs
  have hrun : runF (stepG noMem e7) (1 : Int).toNat (RSt.init m) 0 = ({ RSt.init m with m := stepM m m.kn' op c, mark := markF op c 0 }, 1) := by
    show runF (stepG noMem e7) 1 (RSt.init m) 0 = _
    rw [runF_go (k := 0) (show ((RSt.init m).m.st == 0) = true by show (m.st == 0) = true; rw [hst]; rfl) hs1]
    rfl
  refine ⟨⟨nb.sz, nb.pl, nb.x, nb.kn⟩, ?_⟩
  exact c24a (b24 (bi := false) (k := 0) (L := 0) (C := 0) (T := 0) (inp := fun _ => 0) (bo := false) (bs := false) (oN := 0) (sN := 0) (of := fun _ => 0) (sf := fun _ => []) (fun j hj => absurd hj (Nat.not_lt_zero _)) (b48 e7 (fuel := 1) (by omega) H (by omega) m ⟨base7 hm, fun _ => rfl⟩ hrun))
noncomputable abbrev sc9r (m0 m : MS) (mk : Int) : Short := scOf [conAt 24 [pM, .slice none 0 0, .int .i64 1] m0.H (resV24 m (vOa 111 false 0) 1 mk) (upd24a m false 0 (fun _ => 0) 1 mk) 110 2]
abbrev At1 (m0 m : MS) (mk : Int) : Prop := AtN 24 [pM, .slice none 0 0, .int .i64 1] m0.H (resV24 m (vOa 111 false 0) 1 mk) (upd24a m false 0 (fun _ => 0) 1 mk) 110 2
section
variable (m0 m : MS) (mk : Int) (tk : Bool)
theorem p9_17 : walk (lookF FL) (sc9r m0 m mk) 1000 (.region x9_17) (mkT [10, 8] [.bool tk, pM]) (mkH m0.H) 110 ⟨[], [.id 90, .id 91, .id 92], [10, 8], []⟩ ⟨[], [], [], []⟩ ⟨[], [], [], []⟩ =
    bif decP ([pM, .slice none 0 0, .int .i64 1] = [pM, .slice none 0 0, .int .i64 1] ∧ Has (mkH m0.H) m0.H ∧ At1 m0 m mk) && true && true then some ⟨⟨[], [(90, some m.memB), (91, some m.kn.blk), (92, some m.mB)], .normal, 112⟩, none⟩ else none := by kernel_rfl
theorem p9_28 : walk (lookF FL) (sc9r m0 m mk) 1000 (.region x9_28) (mkT [8] [pM]) (mkH m0.H) 110 ⟨[], [.id 90, .id 91, .id 92], [8], []⟩ ⟨[], [], [], []⟩ ⟨[], [], [], []⟩ =
    bif decP ([pM, .slice none 0 0, .int .i64 1] = [pM, .slice none 0 0, .int .i64 1] ∧ Has (mkH m0.H) m0.H ∧ At1 m0 m mk) && true && true then some ⟨⟨[], [(90, some m.memB), (91, some m.kn.blk), (92, some m.mB)], .normal, 112⟩, none⟩ else none := by kernel_rfl
theorem p9_35 : walk (lookF FL) (sc9r m0 m mk) 1000 (.region x9_35) (mkT [8] [pM]) (mkH m0.H) 110 ⟨[], [.id 90, .id 91, .id 92], [8], []⟩ ⟨[], [], [], []⟩ ⟨[], [], [], []⟩ =
    bif decP ([pM, .slice none 0 0, .int .i64 1] = [pM, .slice none 0 0, .int .i64 1] ∧ Has (mkH m0.H) m0.H ∧ At1 m0 m mk) && true && true then some ⟨⟨[], [(90, some m.memB), (91, some m.kn.blk), (92, some m.mB)], .normal, 112⟩, none⟩ else none := by kernel_rfl
end
end Go.X
namespace Go.X
open Go Go.Proofs
set_option linter.unusedVariables false
set_option linter.unusedSimpArgs false
def setR (m : MS) (r : Nat) (v : Int) : MS := { m with x := fun j => bif Nat.beq j r then v else m.x j }
def keepM (m : MS) : List (Nat × Option Blk) := [(90, some m.memB), (91, some m.kn.blk), (92, some m.mB)]
def jumpM (m : MS) (v : Int) : MS := { m with pl := v }
section
variable (m : MS) (kk a b o : Int) (tk : Bool)
theorem p9_0 : walk (lookF FL) noSc 1000 (.region x9_0) (argTm 0 [.int .u8 o, .int .u64 a, .int .u64 b]) [] 50 ⟨[], [], [0, 1, 2], []⟩ ⟨[], [], [], []⟩ ⟨[], [], [], []⟩ = some ⟨⟨[], [], .normal, 50⟩, none⟩ := by kernel_rfl
theorem p9_5 : walk (lookF FL) sc6 1000 x9_5 (mkT [0, 1, 2] [.int .u8 o, .int .u64 a, .int .u64 b]) [] 50 ⟨[], [], [0, 1, 2], []⟩ ⟨[], [], [], []⟩ ⟨[], [], [], []⟩ = some ⟨⟨[], [], .normal, 50⟩, none⟩ := by kernel_rfl
theorem p9_6 : walk (lookF FL) noSc 1000 (.region x9_6) (mkT [0, 1, 2] [.int .u8 o, .int .u64 a, .int .u64 b]) [] 50 ⟨[7], [], [1, 2], []⟩ ⟨[], [], [], []⟩ ⟨[], [], [], []⟩ = some ⟨⟨[some (true, .int .i64 (IntKind.i64.wrap ((IntKind.i64.wrap o).tmod 6 + 45)))], [], .normal, 50⟩, none⟩ := by kernel_rfl
theorem p9_12 : walk (lookF FL) noSc 1000 x9_12 (mkT [8, 9, 7, 1, 2] [pM, .int .i64 0, .int .i64 kk, .int .u64 a, .int .u64 b]) (mkH m.H) 110 ⟨[], [.id 90, .id 91, .id 92], [8, 7, 1, 2], []⟩ ⟨[], [], [], []⟩ ⟨[], [], [], []⟩ = some ⟨⟨[], keepM m, .normal, 110⟩, none⟩ := by kernel_rfl
theorem p9_13 : walk (lookF FL) noSc 1000 (.region x9_13) (mkT [8, 7, 1, 2] [pM, .int .i64 kk, .int .u64 a, .int .u64 b]) (mkH m.H) 110 ⟨[], [.id 90, .id 91, .id 92], [8, 7, 1, 2], []⟩ ⟨[], [], [], []⟩ ⟨[], [], [], []⟩ = some ⟨⟨[], keepM (setR m 5 a), .normal, 110⟩, none⟩ := by kernel_rfl
theorem p9_14 : walk (lookF FL) noSc 1000 (.region x9_14) (mkT [8, 7, 1, 2] [pM, .int .i64 kk, .int .u64 a, .int .u64 b]) (mkH m.H) 110 ⟨[], [.id 90, .id 91, .id 92], [8, 7, 1, 2], []⟩ ⟨[], [], [], []⟩ ⟨[], [], [], []⟩ = some ⟨⟨[], keepM (setR m 6 b), .normal, 110⟩, none⟩ := by kernel_rfl
theorem p9_15 : walk (lookF FL) noSc 1000 (.region x9_15) (mkT [8, 7, 1, 2] [pM, .int .i64 kk, .int .u64 a, .int .u64 b]) (mkH m.H) 110 ⟨[], [.id 90, .id 91, .id 92], [8, 7, 1, 2], []⟩ ⟨[], [], [], []⟩ ⟨[], [], [], []⟩ = some ⟨⟨[], keepM (setR m 7 16), .normal, 110⟩, none⟩ := by kernel_rfl
theorem p9_22 : walk (lookF FL) noSc 1000 x9_22 (mkT [10, 8] [.bool tk, pM]) (mkH m.H) 110 ⟨[], [.id 90, .id 91, .id 92], [8], []⟩ ⟨[6], [], [], []⟩ ⟨[], [], [], []⟩ =
    bif tk then some ⟨⟨[some (true, .bool (m.pl == 12))], [], .ret, 110⟩, none⟩ else some ⟨⟨[], keepM m, .normal, 110⟩, none⟩ := by cases tk <;> kernel_rfl
theorem p9_27 : walk (lookF FL) noSc 1000 x9_27 (mkT [8] [pM]) (mkH m.H) 110 ⟨[], [.id 90, .id 91, .id 92], [8], []⟩ ⟨[6], [], [], []⟩ ⟨[], [], [], []⟩ =
    bif m.pl != 4 then some ⟨⟨[some (true, .bool false)], [], .ret, 110⟩, none⟩ else some ⟨⟨[], keepM m, .normal, 110⟩, none⟩ := by kernel_rfl
theorem p9_33 : walk (lookF FL) noSc 1000 x9_33 (mkT [8] [pM]) (mkH m.H) 110 ⟨[], [.id 90, .id 91, .id 92], [8], []⟩ ⟨[6], [], [], []⟩ ⟨[], [], [], []⟩ =
    bif ((!m.pl != 16 || m.pl != 16) && true || false) && ((!m.pl != 16 && true || !!m.pl != 16) && ((!m.pl != 16 && true && true || !!m.pl != 16) && true)) then bif bif m.pl != 16 then true else m.x 1 != 8 then some ⟨⟨[some (true, .bool false)], [], .ret, 110⟩, none⟩ else some ⟨⟨[], keepM m, .normal, 110⟩, none⟩ else none := by kernel_rfl
theorem p9_34 : walk (lookF FL) noSc 1000 (.region x9_34) (mkT [8] [pM]) (mkH m.H) 110 ⟨[], [.id 90, .id 91, .id 92], [8], []⟩ ⟨[], [], [], []⟩ ⟨[], [], [], []⟩ = some ⟨⟨[], keepM (jumpM m 8), .normal, 110⟩, none⟩ := by kernel_rfl
theorem p9_37 : walk (lookF FL) noSc 1000 x9_37 (mkT [8] [pM]) (mkH m.H) 110 ⟨[], [], [], []⟩ ⟨[6], [], [], []⟩ ⟨[], [], [], []⟩ =
    bif ((m.pl == 20 || !m.pl == 20) && true || false) && ((m.pl == 20 && true || !m.pl == 20) && ((m.pl == 20 && true && true || !m.pl == 20) && true)) then some ⟨⟨[some (true, .bool (bif m.pl == 20 then m.x 2 == 12 else false))], [], .ret, 110⟩, none⟩ else none := by kernel_rfl
end
def tk9 (kk a b : Int) : Bool := bif kk == 45 then a == b else bif kk == 46 then a != b else bif kk == 47 then decide (IntKind.i64.wrap a < IntKind.i64.wrap b) else bif kk == 48 then decide (IntKind.i64.wrap a ≥ IntKind.i64.wrap b) else bif kk == 49 then decide (a < b) else decide (a ≥ b)
def kk9 (kk : Int) : Prop := kk = 45 ∨ kk = 46 ∨ kk = 47 ∨ kk = 48 ∨ kk = 49 ∨ kk = 50
theorem tk9_eq {kk a b : Int} (h : kk9 kk) : tk9 kk a b = takenF kk a b := by
  rcases h with rfl | rfl | rfl | rfl | rfl | rfl
  · show (a == b) = ((a == b) == true); simp
  · show (a != b) = ((a == b) == false); cases h : a == b <;> simp [bne, h]
  · show decide _ = (decide _ == true); simp
  · show decide (IntKind.i64.wrap a ≥ IntKind.i64.wrap b) = (decide (IntKind.i64.wrap a < IntKind.i64.wrap b) == false)
    by_cases h : IntKind.i64.wrap a < IntKind.i64.wrap b
    · rw [decide_eq_true h, decide_eq_false (by omega)]; rfl
    · rw [decide_eq_false h, decide_eq_true (by omega)]; rfl
  · show decide _ = (decide _ == true); simp
  · show decide (a ≥ b) = (decide (a < b) == false)
    by_cases h : a < b
    · rw [decide_eq_true h, decide_eq_false (by omega)]; rfl
    · rw [decide_eq_false h, decide_eq_true (by omega)]; rfl
theorem p9_16 (m : MS) (kk a b : Int) (h : kk9 kk) : walk (lookF FL) noSc 1000 (.region x9_16) (mkT [8, 7, 1, 2] [pM, .int .i64 kk, .int .u64 a, .int .u64 b]) (mkH m.H) 110 ⟨[10], [.id 90, .id 91, .id 92], [8], []⟩ ⟨[], [], [], []⟩ ⟨[], [], [], []⟩ =
    some ⟨⟨[some (true, .bool (takenF kk a b))], keepM m, .normal, 110⟩, none⟩ := by
  rw [← tk9_eq h]
  rcases h with rfl | rfl | rfl | rfl | rfl | rfl <;> kernel_rfl
end Go.X
namespace Go.X
open Go Go.Proofs
set_option linter.unusedVariables false
set_option linter.unusedSimpArgs false
def J9 (kk : Int) : Nat → Ins
  | 0 => ⟨kk, 0, 5, 6, 12⟩
  | 1 => ⟨53, 1, 0, 0, 12⟩
  | 2 => ⟨0, 0, 0, 0, 0⟩
  | _ => ⟨54, 2, 7, 0, 5⟩
def F9 (i : Ins) : Int × Int := encF i.op i.rd i.rs1 i.rs2 i.imm
theorem enc9 {kk : Int} (h : kk9 kk) : ∀ j, EncV (J9 kk j) (F9 (J9 kk j))
  | 0 => by rcases h with rfl | rfl | rfl | rfl | rfl | rfl <;> exact encK_of (by kernel_rfl)
  | 1 => encK_of (by kernel_rfl)
  | 2 => encK_of (by kernel_rfl)
  | _ + 3 => encK_of (by kernel_rfl)
def of9 (kk : Int) : Nat → Int := (byS F9 (J9 kk) 4).2
theorem by9 {kk : Int} (h : kk9 kk) : byS F9 (J9 kk) 4 = (12, of9 kk) := Prod.ext (by rcases h with rfl | rfl | rfl | rfl | rfl | rfl <;> kernel_rfl) rfl
def m9 (kk : Int) : MS := newM 0 12 (of9 kk) 64
theorem d9_0 {kk : Int} (h : kk9 kk) : decA (IntKind.u32.wrap (num4 (m9 kk).mem 0)) = ⟨kk, ⟨0, 5, 6, 12⟩, 0⟩ := by rcases h with rfl | rfl | rfl | rfl | rfl | rfl <;> kernel_rfl
theorem d9_4 {kk : Int} (h : kk9 kk) : decA (IntKind.u32.wrap (num4 (m9 kk).mem 4)) = ⟨53, ⟨1, 0, 0, 12⟩, 0⟩ := by rcases h with rfl | rfl | rfl | rfl | rfl | rfl <;> kernel_rfl
theorem d9_8 {kk : Int} (h : kk9 kk) : decA (IntKind.u32.wrap (num4 (m9 kk).mem 8)) = ⟨54, ⟨2, 7, 0, 5⟩, 0⟩ := by rcases h with rfl | rfl | rfl | rfl | rfl | rfl <;> kernel_rfl
def f9 (kk : Int) : Nat → List Value := fun j => slab [.int .i64 kk, .int .i64 0, .int .i64 5, .int .i64 6, .int .i64 12, .int .i64 53, .int .i64 1, .int .i64 0, .int .i64 0, .int .i64 12, .int .i64 0, .int .i64 0, .int .i64 0, .int .i64 0, .int .i64 0, .int .i64 54, .int .i64 2, .int .i64 7, .int .i64 0, .int .i64 5] (j * 5) 5
theorem f9_eq (kk : Int) : ∀ j, j < 4 → f9 kk j = (J9 kk j).row
  | 0, _ => rfl
  | 1, _ => rfl
  | 2, _ => rfl
  | 3, _ => rfl
  | j + 4, h => by omega
noncomputable abbrev sc9c (L : Nat) (f : Nat → List Value) (oN : Nat) (of : Nat → Int) (sz : Nat) (m : MS) : Short := scOf [conAt 23 [L60 L L] [(60, .rows L 5 f false false)] (newS 61 oN) (mkH [(61, outB oN of)]) 61 1,
  conAt 22 [newS 61 oN, .int .i64 (sz : Int)] [(61, outB oN of)] (vM3 64) (mkH [(62, m.memB), (63, m.kn.blk), (64, m.mAt 62 63)]) 62 3]
theorem p9_7 (kk a b : Int) (m : MS) (oN : Nat) (of : Nat → Int) : walk (lookF FL) (sc9c 4 (f9 kk) oN of 64 m) 1000 (.region x9_7) (mkT [7, 1, 2] [.int .i64 kk, .int .u64 a, .int .u64 b]) [] 60 ⟨[8, 9], [.id 62, .id 63, .id 64], [7, 1, 2], []⟩ ⟨[], [], [], []⟩ ⟨[], [], [], []⟩ =
    bif decP ([newS 61 oN, .int .i64 64] = [newS 61 oN, .int .i64 ((64 : Nat) : Int)] ∧ Has (mkH [(61, outB oN of), (60, .rows 4 5 (f9 kk) false false)]) [(61, outB oN of)] ∧ AtN 22 [newS 61 oN, .int .i64 ((64 : Nat) : Int)] [(61, outB oN of)] (vM3 64) (mkH [(62, m.memB), (63, m.kn.blk), (64, m.mAt 62 63)]) 62 3) && true &&
      (decP ([L60 4 4] = [L60 4 4] ∧ Has (mkH [(60, .rows 4 5 (f9 kk) false false)]) [(60, .rows 4 5 (f9 kk) false false)] ∧ AtN 23 [L60 4 4] [(60, .rows 4 5 (f9 kk) false false)] (newS 61 oN) (mkH [(61, outB oN of)]) 61 1) && true && true) then
      some ⟨⟨[some (true, .pointer (some ⟨64, 0, some 0⟩)), some (true, .int .i64 0)], [(62, some m.memB), (63, some m.kn.blk), (64, some (m.mAt 62 63))], .normal, 65⟩, none⟩ else none := by kernel_rfl
theorem leafM {E : FEnv} (hP : E.P = Try.prog) (hn : E.B.n = 50) (m : MS) {ks : List Nat} {vs : List Value} {ts : List (Option (Bool × Value))} {ex : Exit} (hts : tsOK (stayOr 50 [(90, 90), (91, 91), (92, 92)]) ts vs) :
    LeafTo E ks ⟨ts, keepM m, ex, 110⟩ ⟨mkT ks vs, mkH m.H, 110⟩ := by
  refine ⟨vs, m.H, 110, rfl, ?_, ?_, ?_⟩ <;> rw [hn]
  · rfl
  · exact hts
  · rw [hP]
    exact ⟨bis_mem, bis_kn, bis_mBg rfl rfl, trivial⟩
end Go.X
namespace Go.X
open Go Go.Proofs
set_option linter.unusedVariables false
set_option linter.unusedSimpArgs false
theorem c9_23 {kk : Int} (h : kk9 kk) : AtN 23 [L60 4 4] [(60, .rows 4 5 (f9 kk) false false)] (newS 61 12) (mkH [(61, outB 12 (of9 kk))]) 61 1 :=
  ⟨rfl, c23_at (C := 4) (J := J9 kk) (F := F9) (fun j _ => enc9 h j) (by omega) (by9 h) rfl (Nat.le_refl 4) (o := false) (r := false) (f9_eq kk) 60 61 (by omega)⟩
theorem c9_22 {kk : Int} : AtN 22 [newS 61 12, .int .i64 ((64 : Nat) : Int)] [(61, outB 12 (of9 kk))] (vM3 64) (mkH [(62, (m9 kk).memB), (63, (m9 kk).kn.blk), (64, (m9 kk).mAt 62 63)]) 62 3 :=
  ⟨rfl, c22_at (L := 12) (C := 12) (sz := 64) (inp := of9 kk) (by omega) (by omega) 61 62 (by omega) (Nat.le_refl 12) (o := true) (r := false) fun j _ => rfl⟩
theorem setX_ok {x : Nat → Int} (h : ∀ j, uB (x j) = true) {r : Nat} {v : Int} (hv : uB v = true) : ∀ j, uB (bif Nat.beq j r then v else x j) = true := fun j => by
  cases Nat.beq j r
  · exact h j
  · exact hv
theorem leafM2 {E : FEnv} (hP : E.P = Try.prog) (hn : E.B.n = 50) (m : MS) {ks : List Nat} {vs : List Value} {ts : List (Option (Bool × Value))} {ex : Exit} (hts : tsOK (stayOr 50 [(90, 90), (91, 91), (92, 92)]) ts vs) :
    LeafTo E ks ⟨ts, keepM m, ex, 112⟩ ⟨mkT ks vs, mkH m.H, 110⟩ := by
  refine ⟨vs, m.H, 110, rfl, ?_, ?_, ?_⟩ <;> rw [hn]
  · rfl
  · exact hts
  · rw [hP]
    exact ⟨bis_mem, bis_kn, bis_mBg rfl rfl, trivial⟩
theorem b9 {o a b : Int} (ho0 : 0 ≤ o) (ho1 : o < 256) (ha : uB a = true) (hb : uB b = true) : Body Try.prog 9 [.int .u8 o, .int .u64 a, .int .u64 b] [] (.bool true) [] 50 0 := by
  refine body_of mixed fx9 (by simp) fun ρ w hd => ?_
  let E := envOf Try.prog 99 50 [] mixed ρ w hd
  have hfin : finP E.toEnv [(6, none)] [] (.bool true) [] 0 .ret ⟨mkT [6] [.bool true], mkH [], 50⟩ := fin_of rfl trivial rfl rfl
  have last : ∀ {v : Bool} {n : Nat}, v = true → LeafTo E ([6] ++ []) ⟨[some (true, .bool v)], [], .ret, n⟩ ⟨mkT [6] [.bool true], mkH [], 50⟩ := fun hv => by
    subst hv
    exact ⟨_, _, _, rfl, rfl, ⟨rfl, trivial⟩, trivial⟩
  obtain ⟨kk, hkk⟩ : ∃ kk, kk = IntKind.i64.wrap ((IntKind.i64.wrap o).tmod 6 + 45) := ⟨_, rfl⟩
  have hk : kk9 kk := by
    rw [wrap_i (n := o) (by omega) (by omega), Int.tmod_eq_emod_of_nonneg ho0, wrap_i (by omega) (by omega)] at hkk
    unfold kk9; omega
  refine xwp_seqW (E := E) (s := ⟨argTm 0 [.int .u8 o, .int .u64 a, .int .u64 b], [], 50⟩) cl_fin FOK 1000 (p9_0 a b o) rfl ⟨mkT [0, 1, 2] [.int .u8 o, .int .u64 a, .int .u64 b], mkH [], 50⟩ ⟨_, _, _, rfl, rfl, ⟨rfl, rfl, rfl, trivial⟩, trivial⟩ ?_
  refine xwp_seqW (E := E) (s := ⟨_, _, _⟩) cl_fin FOK6 1000 (p9_5 a b o) rfl ⟨mkT [0, 1, 2] [.int .u8 o, .int .u64 a, .int .u64 b], mkH [], 50⟩ ⟨_, _, _, rfl, rfl, ⟨rfl, rfl, rfl, trivial⟩, trivial⟩ ?_
  have e6 := p9_6 a b o
  rw [← hkk] at e6
  refine xwp_seqW (E := E) (s := ⟨_, _, _⟩) cl_fin FOK 1000 e6 rfl ⟨mkT [7, 1, 2] [.int .i64 kk, .int .u64 a, .int .u64 b], mkH [], 60⟩ ⟨_, _, _, rfl, rfl, ⟨rfl, rfl, rfl, trivial⟩, trivial⟩ ?_
  have e7 := p9_7 kk a b (m9 kk) 12 (of9 kk)
  rw [decP_true ⟨rfl, ⟨rfl, trivial⟩, c9_22⟩, decP_true ⟨rfl, ⟨rfl, trivial⟩, c9_23 hk⟩] at e7
  simp only [Bool.and_self, cond_true] at e7
  refine xwp_seqW (E := E) (s := ⟨_, _, _⟩) cl_fin (fok FOK _) 1000 e7 rfl ⟨mkT [8, 9, 7, 1, 2] [pM, .int .i64 0, .int .i64 kk, .int .u64 a, .int .u64 b], mkH (m9 kk).H, 110⟩ ⟨_, _, _, rfl, rfl, ⟨rfl, rfl, rfl, rfl, rfl, trivial⟩, bis_mem, bis_kn, bis_mAt rfl rfl, trivial⟩ ?_
  refine xwp_seqW (E := E) (s := ⟨_, _, _⟩) cl_fin FOK 1000 (p9_12 (m9 kk) kk a b) rfl ⟨mkT [8, 7, 1, 2] [pM, .int .i64 kk, .int .u64 a, .int .u64 b], mkH (m9 kk).H, 110⟩ (leafM rfl rfl _ ⟨rfl, rfl, rfl, rfl, trivial⟩) ?_
  refine xwp_seqW (E := E) (s := ⟨_, _, _⟩) cl_fin FOK 1000 (p9_13 (m9 kk) kk a b) rfl ⟨mkT [8, 7, 1, 2] [pM, .int .i64 kk, .int .u64 a, .int .u64 b], mkH (setR (m9 kk) 5 a).H, 110⟩ (leafM rfl rfl _ ⟨rfl, rfl, rfl, rfl, trivial⟩) ?_
  refine xwp_seqW (E := E) (s := ⟨_, _, _⟩) cl_fin FOK 1000 (p9_14 (setR (m9 kk) 5 a) kk a b) rfl ⟨mkT [8, 7, 1, 2] [pM, .int .i64 kk, .int .u64 a, .int .u64 b], mkH (setR (setR (m9 kk) 5 a) 6 b).H, 110⟩ (leafM rfl rfl _ ⟨rfl, rfl, rfl, rfl, trivial⟩) ?_
  obtain ⟨m1, hm1⟩ : ∃ m1, m1 = setR (setR (setR (m9 kk) 5 a) 6 b) 7 16 := ⟨_, rfl⟩
  refine xwp_seqW (E := E) (s := ⟨_, _, _⟩) cl_fin FOK 1000 (p9_15 (setR (setR (m9 kk) 5 a) 6 b) kk a b) rfl ⟨mkT [8, 7, 1, 2] [pM, .int .i64 kk, .int .u64 a, .int .u64 b], mkH m1.H, 110⟩ (hm1 ▸ leafM rfl rfl _ ⟨rfl, rfl, rfl, rfl, trivial⟩) ?_
  refine xwp_seqW (E := E) (s := ⟨_, _, _⟩) cl_fin FOK 1000 (p9_16 m1 kk a b hk) rfl ⟨mkT [10, 8] [.bool (takenF kk a b), pM], mkH m1.H, 110⟩ (leafM rfl rfl _ ⟨rfl, rfl, trivial⟩) ?_
  have h1 : OKM m1 := by
    subst hm1
    exact ⟨rfl, rfl, setX_ok (setX_ok (setX_ok (fun _ => rfl) ha) hb) rfl, fun w h => by cases h⟩
  have hd1 : decA (w32 m1) = ⟨kk, ⟨0, 5, 6, 12⟩, 0⟩ := by subst hm1; exact d9_0 hk
  obtain ⟨h2, r1⟩ := run1x h1 (by subst hm1; rfl) (by subst hm1; rfl) hd1 (by rcases hk with rfl | rfl | rfl | rfl | rfl | rfl <;> rfl)
  obtain ⟨m2, hm2⟩ : ∃ m2, m2 = stepM m1 m1.kn' kk ⟨0, 5, 6, 12⟩ := ⟨_, rfl⟩
  have hp2 : m2.pl = bif takenF kk a b then 12 else 4 := by
    subst hm2; subst hm1
    rcases hk with rfl | rfl | rfl | rfl | rfl | rfl <;> rfl
  have hx2 : m2.x 7 = 16 := by
    subst hm2; subst hm1
    rcases hk with rfl | rfl | rfl | rfl | rfl | rfl <;> rfl
  have ht2 : m2.st = 0 ∧ m2.sz = 64 ∧ m2.mem = (m9 kk).mem := by
    subst hm2; subst hm1
    exact ⟨rfl, rfl, rfl⟩
  rw [← hm2] at h2 r1
  clear hm2 hd1 h1 hm1
  have e17 := p9_17 m1 m2 (markF kk ⟨0, 5, 6, 12⟩ 0) (takenF kk a b)
  rw [decP_true ⟨rfl, ⟨rfl, rfl, rfl, trivial⟩, r1⟩] at e17
  simp only [Bool.and_self, cond_true] at e17
  refine xwp_seqW (E := E) (s := ⟨_, _, _⟩) cl_fin (fok FOK _) 1000 e17 rfl ⟨mkT [10, 8] [.bool (takenF kk a b), pM], mkH m2.H, 110⟩ (leafM2 rfl rfl _ ⟨rfl, rfl, trivial⟩) ?_
  have e22 := p9_22 m2 (takenF kk a b)
  cases htk : takenF kk a b with
  | true =>
    rw [htk] at e22 hp2
    refine xwp_seq (xwp_toEnd (E := E) (s := ⟨_, _, _⟩) (cl_seqP cl_fin) FOK 1000 e22 _ (last ?_) hfin)
    rw [hp2]; rfl
  | false =>
    rw [htk] at e22 hp2
    simp only [cond_false] at hp2
    refine xwp_seqW (E := E) (s := ⟨_, _, _⟩) cl_fin FOK 1000 e22 rfl ⟨mkT [8] [pM], mkH m2.H, 110⟩ (leafM rfl rfl _ ⟨rfl, trivial⟩) ?_
    have e27 := p9_27 m2
    rw [hp2] at e27
    refine xwp_seqW (E := E) (s := ⟨_, _, _⟩) cl_fin FOK 1000 e27 rfl ⟨mkT [8] [pM], mkH m2.H, 110⟩ (leafM rfl rfl _ ⟨rfl, trivial⟩) ?_
    have hd2 : decA (w32 m2) = ⟨53, ⟨1, 0, 0, 12⟩, 0⟩ := by
      unfold w32
      rw [hp2, ht2.2.2]; exact d9_4 hk
    obtain ⟨h3, r2⟩ := run1x h2 ht2.1 (by rw [hp2, ht2.2.1]; rfl) hd2 rfl
    obtain ⟨m3, hm3⟩ : ∃ m3, m3 = stepM m2 m2.kn' 53 ⟨1, 0, 0, 12⟩ := ⟨_, rfl⟩
    have hp3 : m3.pl = 16 := by
      subst hm3
      show IntKind.u64.wrap (m2.pl + ofF 12) = 16
      rw [hp2]; rfl
    have hx31 : m3.x 1 = 8 := by
      subst hm3
      show IntKind.u64.wrap (m2.pl + 4) = 8
      rw [hp2]; rfl
    have hx37 : m3.x 7 = 16 := by subst hm3; exact hx2
    have ht3 : m3.st = 0 ∧ m3.sz = 64 ∧ m3.mem = (m9 kk).mem := by subst hm3; exact ht2
    rw [← hm3] at h3 r2
    clear hm3 hd2 h2 r1
    have e28 := p9_28 m2 m3 (markF 53 ⟨1, 0, 0, 12⟩ 0)
    rw [decP_true ⟨rfl, ⟨rfl, rfl, rfl, trivial⟩, r2⟩] at e28
    simp only [Bool.and_self, cond_true] at e28
    refine xwp_seqW (E := E) (s := ⟨_, _, _⟩) cl_fin (fok FOK _) 1000 e28 rfl ⟨mkT [8] [pM], mkH m3.H, 110⟩ (leafM2 rfl rfl _ ⟨rfl, trivial⟩) ?_
    have e33 := p9_33 m3
    rw [hp3, hx31] at e33
    refine xwp_seqW (E := E) (s := ⟨_, _, _⟩) cl_fin FOK 1000 e33 rfl ⟨mkT [8] [pM], mkH m3.H, 110⟩ (leafM rfl rfl _ ⟨rfl, trivial⟩) ?_
    refine xwp_seqW (E := E) (s := ⟨_, _, _⟩) cl_fin FOK 1000 (p9_34 m3) rfl ⟨mkT [8] [pM], mkH (jumpM m3 8).H, 110⟩ (leafM rfl rfl _ ⟨rfl, trivial⟩) ?_
    have h3' : OKM (jumpM m3 8) := ⟨h3.sz, rfl, h3.x, h3.kn⟩
    have hd3 : decA (w32 (jumpM m3 8)) = ⟨54, ⟨2, 7, 0, 5⟩, 0⟩ := by
      show decA (IntKind.u32.wrap (num4 m3.mem 8)) = _
      rw [ht3.2.2]; exact d9_8 hk
    obtain ⟨h4, r3⟩ := run1x h3' ht3.1 (by show plB m3.sz 8 4 = true; rw [ht3.2.1]; rfl) hd3 rfl
    have e35 := p9_35 (jumpM m3 8) (stepM (jumpM m3 8) (jumpM m3 8).kn' 54 ⟨2, 7, 0, 5⟩) (markF 54 ⟨2, 7, 0, 5⟩ 0)
    rw [decP_true ⟨rfl, ⟨rfl, rfl, rfl, trivial⟩, r3⟩] at e35
    simp only [Bool.and_self, cond_true] at e35
    refine xwp_seqW (E := E) (s := ⟨_, _, _⟩) cl_fin (fok FOK _) 1000 e35 rfl ⟨mkT [8] [pM], mkH (stepM (jumpM m3 8) (jumpM m3 8).kn' 54 ⟨2, 7, 0, 5⟩).H, 110⟩ (leafM2 rfl rfl _ ⟨rfl, trivial⟩) ?_
    have hp4 : (stepM (jumpM m3 8) (jumpM m3 8).kn' 54 ⟨2, 7, 0, 5⟩).pl = 20 := by
      show bits2 .andNot .u64 (IntKind.u64.wrap (m3.x 7 + ofF 5)) 1 = 20
      rw [hx37]; rfl
    have hx4 : (stepM (jumpM m3 8) (jumpM m3 8).kn' 54 ⟨2, 7, 0, 5⟩).x 2 = 12 := rfl
    have e37 := p9_37 (stepM (jumpM m3 8) (jumpM m3 8).kn' 54 ⟨2, 7, 0, 5⟩)
    rw [hp4, hx4] at e37
    exact xwp_toEnd (E := E) (s := ⟨_, _, _⟩) cl_fin FOK 1000 e37 _ (last rfl) hfin
end Go.X
