import Derived.Test.YtnekegldodbgjaaJ45
import Derived.Test.YtnekegldodbgjaaJ18
set_option linter.all false
namespace Go.X
open Go Go.Proofs
def newM (k L : Nat) (inp : Nat -> Int) (sz : Nat) : MS := ⟨sz, fun j => bif Nat.blt j L then inp (k + j) else 0, fun _ => 0, 0, 0, 0, ⟨0, fun _ => false⟩⟩
def MS.mAt (m : MS) (a b : Nat) : Blk := .var ([.slice (some ⟨a, 0, none⟩) m.sz m.sz] ++ regs m.x ++ [.int .u64 m.pl, .int .i64 m.st, .int .u8 m.cd, .map (some b)])
def exJ' (bi : Bool) : List Nat := bif bi then [40] else []
def mem22 (bi : Bool) (k L : Nat) (inp : Nat -> Int) (sz : Nat) : Blk := .rows sz 1 (rowPut (fun _ => [.int .u8 0]) 0 (min (bif bi then L else 0) sz) (fun j => bif bi then [.int .u8 (inp (k + j))] else [])) false false
def old22 : Blk := .map 35 26 0 (fun _ => false) (fun _ => i18 0 0 0 0 0)
theorem p22 (bi : Bool) (k L C T : Nat) (sz : Nat) (inp : Nat -> Int) (hL : bi = false -> L = 0) (h1 : L <= sz) (h2 : sz <= 4194304) (hT : bi = true -> k + L <= T) :
    walk (lookF FL) noSc 1000 x22 (argTm 0 [vI bi k L C, .int .i64 (sz : Int)]) (mkH (exI bi (inB T inp))) 100 ⟨[], [], [], []⟩ ⟨[4, 5], [.id 100, .id 101, .id 102], [], exJ' bi⟩ ⟨[], [], [], []⟩ =
      some ⟨⟨[some (true, .pointer (some ⟨102, 0, some 0⟩)), some (true, .int .i64 0)], [(100, some (mem22 bi k L inp sz)), (101, some old22), (102, some ((newM k L inp sz).mAt 100 101))], .ret, 103⟩, none⟩ := by
  cases bi with
  | false =>
    have hL0 := hL rfl
    subst hL0
    have e : walk (lookF FL) noSc 1000 x22 (argTm 0 [vI false k 0 C, .int .i64 (sz : Int)]) (mkH (exI false (inB T inp))) 100 ⟨[], [], [], []⟩ ⟨[4, 5], [.id 100, .id 101, .id 102], [], exJ' false⟩ ⟨[], [], [], []⟩ =
      bif bif decide ((sz : Int) < 0) then true else decide ((sz : Int) > 4194304) then some ⟨⟨[some (true, .pointer none), some (true, .int .i64 1)], [(100, none), (101, none), (102, none)], .ret, 100⟩, none⟩
        else bif decide (0 <= (sz : Int)) && decide ((sz : Int) <= (sz : Int)) && decide ((sz : Int) * 3 <= 1099511627776) && true && true then bif (0 + sz).ble sz && true && true then
          some ⟨⟨[some (true, .pointer (some ⟨102, 0, some 0⟩)), some (true, .int .i64 0)], [(100, some (mem22 false k 0 inp sz)), (101, some old22), (102, some ((newM k 0 inp sz).mAt 100 101))], .ret, 103⟩, none⟩ else none else none := by kernel_rfl
    rw [e]
    simp only [decide_eq_false (show ¬ (sz : Int) < 0 by omega), decide_eq_false (show ¬ (sz : Int) > 4194304 by omega), decide_eq_true (show 0 <= (sz : Int) by omega), decide_eq_true (Int.le_refl (sz : Int)), decide_eq_true (show (sz : Int) * 3 <= 1099511627776 by omega), Nat.zero_add, show sz.ble sz = true by simp]
    rfl
  | true =>
    have e : walk (lookF FL) noSc 1000 x22 (argTm 0 [vI true k L C, .int .i64 (sz : Int)]) (mkH (exI true (inB T inp))) 100 ⟨[], [], [], []⟩ ⟨[4, 5], [.id 100, .id 101, .id 102], [], exJ' true⟩ ⟨[], [], [], []⟩ =
      bif ((!decide ((sz : Int) < (L : Int)) || decide ((sz : Int) < (L : Int))) && true || false) && ((!decide ((sz : Int) < (L : Int)) && true || !!decide ((sz : Int) < (L : Int))) && true) then bif bif decide ((sz : Int) < (L : Int)) then true else decide ((sz : Int) > 4194304) then some ⟨⟨[some (true, .pointer none), some (true, .int .i64 1)], [(100, none), (101, none), (102, none)], .ret, 100⟩, none⟩
        else bif decide (0 <= (sz : Int)) && decide ((sz : Int) <= (sz : Int)) && decide ((sz : Int) * 3 <= 1099511627776) && true && true then bif (k + L).ble T && true && (0 + sz).ble sz && true && true then
          some ⟨⟨[some (true, .pointer (some ⟨102, 0, some 0⟩)), some (true, .int .i64 0)], [(100, some (mem22 true k L inp sz)), (101, some old22), (102, some ((newM k L inp sz).mAt 100 101))], .ret, 103⟩, none⟩ else none else none else none := by kernel_rfl
    rw [e]
    simp only [decide_eq_false (show ¬ (sz : Int) < (L : Int) by omega), decide_eq_false (show ¬ (sz : Int) > 4194304 by omega), decide_eq_true (show 0 <= (sz : Int) by omega), decide_eq_true (Int.le_refl (sz : Int)), decide_eq_true (show (sz : Int) * 3 <= 1099511627776 by omega), Nat.zero_add, show sz.ble sz = true by simp, show (k + L).ble T = true by rw [ble_dec]; simp; exact hT rfl]
    rfl
theorem bis_mem22 {P : Program} {σ : Nm} {bi : Bool} {k L : Nat} {inp : Nat -> Int} {sz : Nat} (hL : bi = false -> L = 0) (h1 : L <= sz) : BIs P σ (newM k L inp sz).memB (mem22 bi k L inp sz) := by
  refine ⟨rfl, rfl, fun j hj => ?_, by first | exact .inl rfl | exact .inr rfl | exact .inr (.inl rfl), by first | exact .inl rfl | exact .inr rfl⟩
  show rnL _ [.int .u8 (bif Nat.blt j L then inp (k + j) else 0)] = cond (Nat.ble 0 j && Nat.blt j (0 + min (bif bi then L else 0) sz)) (bif bi then [.int .u8 (inp (k + (j - 0)))] else []) [.int .u8 0]
  have h0 : Nat.ble 0 j = true := by simp
  rw [h0, Bool.true_and, Nat.zero_add, Nat.sub_zero]
  cases bi with
  | false =>
    have := hL rfl
    subst this
    have : Nat.blt j 0 = false := by rw [blt_dec]; simp
    rw [this, cond_false, cond_false]; simp only [Nat.zero_min, this, cond_false]; rfl
  | true =>
    rw [cond_true, Nat.min_eq_left h1, cond_true]
    cases Nat.blt j L <;> rfl
theorem bis_old {P : Program} {σ : Nm} {k L : Nat} {inp : Nat -> Int} {sz : Nat} : BIs P σ (newM k L inp sz).kn.blk old22 := ⟨rfl, rfl, rfl, fun d q _ _ => ⟨rfl, rfl⟩⟩
theorem bis_mAt {P : Program} {σ : Nm} {m : MS} {a b a' b' : Nat} (ha : σ a = some a') (hb : σ b = some b') : BIs P σ (m.mAt a b) (m.mAt a' b') := by
  show ren σ 4 (.slice (some ⟨a, 0, none⟩) m.sz m.sz) :: (rnL σ (regs m.x ++ [.int .u64 m.pl, .int .i64 m.st, .int .u8 m.cd]) ++ [ren σ 4 (.map (some b))]) = _
  simp only [ren, renP, ha, hb]
  rfl
def upd22 (m : MS) : Hp := mkH [(100, m.memB), (101, m.kn.blk), (102, m.mAt 100 101)]
theorem b22 {bi : Bool} {k L C T sz : Nat} {inp : Nat -> Int} (hL : bi = false -> L = 0) (h1 : L <= sz) (h2 : sz <= 4194304) (hT : bi = true -> k + L <= T) :
    Body Try.prog 22 [vI bi k L C, .int .i64 (sz : Int)] (mkH (exI bi (inB T inp))) (.tuple ⟨[.pointer (some ⟨102, 0, some 0⟩), .int .i64 0]⟩) (upd22 (newM k L inp sz)) 100 3 := by
  have e := p22 bi k L C T sz inp hL h1 h2 hT
  refine body_walk FOK fx22 (by simp) e rfl ⟨mkT [4, 5] [.pointer (some ⟨102, 0, some 0⟩), .int .i64 0], upd22 (newM k L inp sz) ++ mkH (exI bi (inB T inp)), 103⟩ (fun ρ w hd => ⟨[.pointer (some ⟨102, 0, some 0⟩), .int .i64 0], (100, (newM k L inp sz).memB) :: (101, (newM k L inp sz).kn.blk) :: (102, (newM k L inp sz).mAt 100 101) :: exI bi (inB T inp), 103, ?_, ?_, ?_, ?_⟩) ?_ rfl ?_
  · cases bi <;> rfl
  · cases bi <;> rfl
  · cases bi <;> exact ⟨rfl, rfl, trivial⟩
  · cases bi
    · exact ⟨bis_mem22 hL h1, bis_old, bis_mAt rfl rfl, trivial⟩
    · exact ⟨bis_mem22 hL h1, bis_old, bis_mAt rfl rfl, bis_inB, trivial⟩
  · cases bi
    · exact ⟨rfl, rfl, rfl, trivial⟩
    · exact ⟨rfl, rfl, rfl, rfl, trivial⟩
  · cases bi <;> rfl
section
variable (n o : Int) (i N : Nat) (f : Nat -> List Value)
end
def v7 (i : Nat) : Value := bif bO i then L60 (2 * i) (2 * i) else .slice none 0 0
section
variable {N : Nat} {r : Int} (hN : N <= 510) (h0 : 0 <= r) (h1 : r < 32)
end
def vM3 (a : Nat) : Value := .tuple ⟨[.pointer (some ⟨a, 0, some 0⟩), .int .i64 0]⟩
theorem c22_at {L C sz : Nat} {inp : Nat -> Int} (h1 : L <= sz) (h2 : sz <= 4194304) (b n : Nat) (hbn : b < n) {T : Nat} (hT : L <= T) {f : Nat -> List Value} {o r : Bool} (hf : ∀ j, j < T -> f j = [.int .u8 (inp j)]) :
    ADet Try.prog 22 [.slice (some ⟨b, 0, none⟩) L C, .int .i64 (sz : Int)] [(b, some (.rows T 1 f o r))] (vM3 (n + 2)) (mkH [(n, (newM 0 L inp sz).memB), (n + 1, (newM 0 L inp sz).kn.blk), (n + 2, (newM 0 L inp sz).mAt n (n + 1))]) n 3 := by
  have h : ADet Try.prog 22 [.slice (some ⟨b, 0, none⟩) L C, .int .i64 (sz : Int)] [(b, some (.rows T 1 f o true))] (vM3 (n + 2)) (mkH [(n, (newM 0 L inp sz).memB), (n + 1, (newM 0 L inp sz).kn.blk), (n + 2, (newM 0 L inp sz).mAt n (n + 1))]) n 3 := by
    have ha : ∀ {σ : Nm}, BIs Try.prog σ (inB T inp) (.rows T 1 f o true) := ⟨rfl, rfl, fun j hj => by rw [hf j hj]; rfl, .inr (.inr rfl), .inl rfl⟩
    have ha' : ∀ {σ : Nm}, BIs Try.prog σ (.rows T 1 f o true) (inB T inp) := ⟨rfl, rfl, fun j hj => by rw [hf j hj]; rfl, .inr (.inl rfl), .inl rfl⟩
    have hk : ∀ {σ : Nm}, BIs Try.prog σ (newM 0 L inp sz).kn.blk (newM 0 L inp sz).kn.blk := bis_kn
    have b1 := beq_ff (show n ≠ b by omega)
    have b2 := beq_ff (show n + 1 ≠ b by omega)
    have b3 := beq_ff (show n + 2 ≠ b by omega)
    have b4 := beq_ff (show b ≠ n by omega)
    have b5 := beq_ff (show b ≠ n + 1 by omega)
    have b6 := beq_ff (show b ≠ n + 2 by omega)
    have c1 := beq_ff (show n ≠ n + 1 by omega)
    have c2 := beq_ff (show n ≠ n + 2 by omega)
    have c3 := beq_ff (show n + 1 ≠ n + 2 by omega)
    have c4 := beq_ff (show n + 1 ≠ n by omega)
    have c5 := beq_ff (show n + 2 ≠ n by omega)
    have c6 := beq_ff (show n + 2 ≠ n + 1 by omega)
    have bn := beq_tt n
    have bn1 := beq_tt (n + 1)
    have bn2 := beq_tt (n + 2)
    have bb := beq_tt b
    have s1 : asc ((n, 100) :: (n + 1, 101) :: (n + 2, 102) :: flip [(40, b)]) n = some 100 := by simp only [asc, bn, cond_true]
    have s2 : asc ((n, 100) :: (n + 1, 101) :: (n + 2, 102) :: flip [(40, b)]) (n + 1) = some 101 := by simp only [asc, c1, bn1, cond_true, cond_false]
    have s3 : asc ((n, 100) :: (n + 1, 101) :: (n + 2, 102) :: flip [(40, b)]) (n + 2) = some 102 := by simp only [asc, c2, c3, bn2, cond_true, cond_false]
    have s4 : asc ((n, 100) :: (n + 1, 101) :: (n + 2, 102) :: flip [(40, b)]) b = some 40 := by simp only [flip, asc, b1, b2, b3, bb, cond_true, cond_false]
    refine adet_of_body (b22 (bi := true) (k := 0) (L := L) (C := C) (T := T) (sz := sz) (inp := inp) (fun h => by cases h) h1 h2 (fun _ => by omega)) [(40, b)] [(n, 100), (n + 1, 101), (n + 2, 102)] ?_ rfl ?_ rfl ?_ ?_ ?_
    · refine (show ((Nat.blt 40 100 && Nat.beq b b && true) && ((Nat.ble n n && Nat.blt n (n + 3)) && ((Nat.ble n (n + 1) && Nat.blt (n + 1) (n + 3)) && ((Nat.ble n (n + 2) && Nat.blt (n + 2) (n + 3)) && true))) && true && true) = true from ?_)
      simp [lt_blt]
    · refine ⟨?_, trivial⟩
      show (match hget [(b, some (Blk.rows T 1 f o true))] b with | some x => BIs Try.prog (asc [(40, b)]) (inB T inp) x | none => False)
      simp only [hget, bb, cond_true]
      exact ha
    · show (.tuple ⟨[renP _ (n + 2) 0 (some 0) _, .int .i64 0]⟩ : Value) = _
      simp only [List.cons_append, List.nil_append, renP, s3]
    · simp only [mkH, List.cons_append, List.nil_append, HsOK, natMem, b1, b2, b3, b4, b5, b6, c1, c2, c3, c4, c5, c6, bn, bn1, bn2, Bool.or_false, Bool.false_or]
      rw [s1, s2, s3, s4]
      exact ⟨bis_mem, hk, bis_mAt s1 s2, ha', trivial⟩
    · simp only [mkH, List.cons_append, List.nil_append, namesOf, natMem, b1, b2, b3, b4, b5, b6, c1, c2, c3, c4, c5, c6, bn, bn1, bn2, Bool.or_false, Bool.false_or]
      rw [s1, s2, s3, s4]
      rfl
  cases r with
  | true => exact h
  | false => exact adet_demote h (by simp [mkH, fstL]; omega) rfl
structure OKM (m : MS) : Prop where
  sz : szB m.sz = true
  pl : uB m.pl = true
  x : ∀ j, uB (m.x j) = true
  kn : m.kn.OK
section
variable (m0 m : MS) (mk : Int) (tk : Bool)
end
def e0 (wt : Bool) : REnv := ⟨false, 0, fun _ => 0, 0, 0, 0, wt⟩
theorem base0 {wt : Bool} {m : MS} (h : OKM m) : BaseOK (e0 wt) 0 (RSt.init m) /\ (RSt.init m).sN <= 0 := ⟨⟨h.sz, h.pl, h.x, h.kn, fun j hj => absurd hj (Nat.not_lt_zero _), Nat.le_refl _, Nat.le_refl _, Nat.le_refl _, Nat.le_refl _⟩, Nat.le_refl _⟩
def runM (wt : Bool) (m : MS) (fuel : Nat) : RSt × Nat := runF (stepF (e0 wt)) fuel (RSt.init m) 0
theorem runM_ok {wt : Bool} {m : MS} (h : OKM m) {fuel : Nat} (hf : fuel <= 1000000000) : OKM (runM wt m fuel).1.m /\ SeOK (runM wt m fuel).1.sN (runM wt m fuel).1.sf := by
  have H := steps_all (e0 wt) (fuel := (fuel : Int)) (by omega)
  rcases run_ok H fuel 0 (RSt.init m) (by omega) (base0 h) with ⟨n', hb, _⟩ | ⟨n', s1, ⟨hb, _⟩, e⟩
  · exact ⟨⟨hb.sz, hb.pl, hb.x, hb.kn⟩, hb.se⟩
  · unfold runM; rw [e]; exact ⟨⟨hb.sz, hb.pl, hb.x, hb.kn⟩, hb.se⟩
def inb0 : Blk := inB 0 fun _ => 0
theorem run48 (wt : Bool) {m : MS} (h : OKM m) {fuel : Nat} (hf : fuel <= 1000000000) {s : RSt} {n : Nat} (hr : runM wt m fuel = (s, n)) :
    Body Try.prog 48 [pM, vI false 0 0 0, .int .i64 (fuel : Int), .bool wt] (mkH (pre48 m false inb0)) (val48 s.m (bO s.oN) (bO s.sN) s.oN s.sN n s.mark) (upd48 s.m (bO s.oN) (bO s.sN) s.oN s.of s.sN s.sf n s.mark) 100 4 :=
  b48 (e0 wt) (fuel := (fuel : Int)) (by omega) (steps_all (e0 wt) (by omega)) (by omega) m (base0 h) hr
theorem run24 {m : MS} (h : OKM m) {fuel : Nat} (hf : fuel <= 1000000000) {s : RSt} {n : Nat} (hr : runM false m fuel = (s, n)) :
    Body Try.prog 24 [pM, .slice none 0 0, .int .i64 (fuel : Int)] (mkH m.H) (resV24 s.m (vO (bO s.oN) s.oN) n s.mark) (upd24 s.m (bO s.oN) s.oN s.of n s.mark) 100 2 := by
  have hse := (runM_ok (wt := false) h hf).2
  rw [hr] at hse
  exact b24 (bi := false) (k := 0) (L := 0) (C := 0) (T := 0) (inp := fun _ => 0) hse (run48 false h hf hr)
def inK (k : Int) : Bool := bif decide (k > 0) then decide (k < 32) else false
def setM (m : MS) (k v : Int) : MS := bif inK k then { m with x := fun j => bif Nat.beq (j + 1) (1 + k.toNat * 1) then v else m.x j } else m
abbrev pAt (c : Nat) : Value := .pointer (some ⟨c, 0, some 0⟩)
def MS.HA (m : MS) (a b c : Nat) : List (Nat × Blk) := [(a, m.memB), (b, m.kn.blk), (c, m.mAt a b)]
def upd24g (a b c : Nat) (m : MS) (bo : Bool) (oN : Nat) (of : Nat -> Int) (n mk : Int) : Hp := mkH ([(130, resB m (vOa 131 bo oN) n mk), (a, m.memB), (b, m.kn.blk), (c, m.mAt a b)] ++ extN 131 132 bo false (outB oN of) (outB oN of))
theorem bis_resO {P : Program} {σ : Nm} {m : MS} {bo : Bool} {oN : Nat} {n mk : Int} {a b : Nat} (h : bo = true -> σ a = some b) : BIs P σ (resB m (vOa a bo oN) n mk) (resB m (vOa b bo oN) n mk) := by
  show [_, _, _, ren σ 4 (vOa a bo oN), _, _] = _
  have : ren σ 4 (vOa a bo oN) = vOa b bo oN := by
    cases bo with
    | false => rfl
    | true => simp only [vOa, cond_true, ren, renP, h rfl]
  rw [this]; rfl
theorem c24_0 {m : MS} (h : OKM m) {fuel : Nat} (hf : fuel <= 1000000000) {s : RSt} {n : Nat} (hr : runM false m fuel = (s, n)) :
    AtN 24 [pAt 92, .slice none 0 0, .int .i64 (fuel : Int)] (m.HA 90 91 92) (resV24 s.m (vOa 131 (bO s.oN) s.oN) n s.mark) (upd24g 90 91 92 s.m (bO s.oN) s.oN s.of n s.mark) 130 2 := by
  have hb := run24 h hf hr
  cases hbo : bO s.oN with
  | false =>
    rw [hbo] at hb
    exact ⟨rfl, adet_of_body hb [(90, 90), (91, 91), (92, 92)] [(130, 100), (131, 101)] rfl rfl ⟨bis_mem, bis_kn, bis_mAt (a := 90) (b := 91) rfl rfl, trivial⟩ rfl rfl ⟨rfl, bis_mem, bis_kn, bis_mAt rfl rfl, trivial, trivial, trivial, trivial⟩ rfl⟩
  | true =>
    rw [hbo] at hb
    exact ⟨rfl, adet_of_body hb [(90, 90), (91, 91), (92, 92)] [(130, 100), (131, 101)] rfl rfl ⟨bis_mem, bis_kn, bis_mAt (a := 90) (b := 91) rfl rfl, trivial⟩ rfl rfl ⟨bis_resO (fun _ => rfl), bis_mem, bis_kn, bis_mAt rfl rfl, bis_outB, trivial, trivial, trivial, trivial⟩ rfl⟩
def setsM (m : MS) (rg : Nat -> Int) : Nat -> MS
  | 0 => m
  | k + 1 => setM (setsM m rg k) (k : Int) (rg k)
section
variable (bi br : Bool) (p q : Int) (L C R RC : Nat) (inp rg : Nat -> Int) (m m2 : MS) (sz : Nat) (k : Nat) (hb : bi = false -> L = 0) (hr : br = false -> R = 0)
include hb hr
end
section
variable {E : FEnv} {Q : Post} (hP : E.P = Try.prog) (hn : E.B.n = 50) (hcl : Cl E.toEnv Q) {bi br : Bool} {p q : Int} {L C R RC : Nat} {inp rg : Nat -> Int} (m m0 : MS) (hb : bi = false -> L = 0) (hr : br = false -> R = 0) (hR : R <= 40)
include hP hn hcl hb hr hR
end
def m8 (L R : Nat) (inp rg : Nat -> Int) : MS := setsM (newM 0 L inp (L + 256)) rg R
section
variable {E : FEnv} {Q : Post} (hP : E.P = Try.prog) (hn : E.B.n = 50) (hcl : Cl E.toEnv Q) {bi br : Bool} {p q : Int} {L C R RC : Nat} {inp rg : Nat -> Int} {m : MS} (hm : m = m8 L R inp rg) (hb : bi = false -> L = 0) (hr : br = false -> R = 0) (hR : R <= 40) (hL : L <= 2000)
include hP hn hcl hb hr hR hL hm
end
theorem blt_ff {a b : Nat} (h : ¬ a < b) : Nat.blt a b = false := by rw [blt_dec]; simp; omega
section
variable {o1 : Nat} {of1 : Nat -> Int} {mk1 : Int} {n1 : Nat} {sf1 : Nat -> List Value}
end
section
variable (st cd n mk : Int) (oN oN2 : Nat) (of of2 : Nat -> Int)
end
section
variable (l k : Nat) (f g : Nat -> List Value)
end
section
variable {E : FEnv} {Q : Post} (hP : E.P = Try.prog) (hn : E.B.n = 50) (hcl : Cl E.toEnv Q) {p q : Int} {m : MS} {al x y z : RSt} {na nx ny nz : Nat} {b0 b1 b2 s1 s2 : Bool} {fu : Int} {yy : XCode}
  (hs1 : ∀ {σ : Nm}, BIs Try.prog σ (seB x.sN x.sf) (seB x.sN x.sf)) (hs2 : ∀ {σ : Nm}, BIs Try.prog σ (seB y.sN y.sf) (seB y.sN y.sf)) (hs3 : ∀ {σ : Nm}, BIs Try.prog σ (seB z.sN z.sf) (seB z.sN z.sf))
include hP hn hcl hs1 hs2 hs3
end
theorem newM_ok {k L sz : Nat} {inp : Nat -> Int} (h : szB sz = true) : OKM (newM k L inp sz) := ⟨h, rfl, fun _ => rfl, fun w h => by cases h⟩
section
variable (m : MS) (kk a b o : Int) (tk : Bool)
end
section
variable (x o sk lk n : Int) (m : MS) (oN : Nat) (of : Nat -> Int) (s : RSt) (sf : Nat -> List Value) (v6 v7 st cd mk : Int) (i : Nat) (g : Nat -> Int)
def t12 (b : Bool) : Bool := ((!b || b) && true || false) && ((!b && (!b && true) || !!b) && ((!b && (!b && true) || !!b) && ((!b && true || !!b) && true)))
end
theorem u64w (a : Int) : IntKind.u64.wrap a = a % 18446744073709551616 := by simp [IntKind.wrap, IntKind.bits, IntKind.signed]
theorem u8w (a : Int) : IntKind.u8.wrap a = a % 256 := by simp [IntKind.wrap, IntKind.bits, IntKind.signed]
theorem bv64 (x : Nat) (h : x < 18446744073709551616) : (BitVec.ofInt 64 (x : Int)).toNat = x := by
  rw [BitVec.toNat_ofInt]; omega
theorem or_add {a b : Int} (n : Nat) (ha0 : 0 <= a) (ha : a < 2 ^ n) (hb0 : 0 <= b) (hb : b < 18446744073709551616) (hm : b % 2 ^ n = 0) (han : a < 18446744073709551616) (hs : a + b < 18446744073709551616) : bits2 .or .u64 a b = a + b := by
  obtain ⟨a, rfl⟩ : ∃ k : Nat, a = k := ⟨a.toNat, by omega⟩
  obtain ⟨b, rfl⟩ : ∃ k : Nat, b = k := ⟨b.toNat, by omega⟩
  show IntKind.u64.wrap (BitVec.ofInt 64 (a : Int) ||| BitVec.ofInt 64 (b : Int)).toNat = _
  rw [BitVec.toNat_or, bv64 a (by omega), bv64 b (by omega), u64w]
  have ha' : a < 2 ^ n := by exact_mod_cast ha
  have hm' : b % 2 ^ n = 0 := by exact_mod_cast hm
  obtain ⟨q, rfl⟩ : ∃ q, b = 2 ^ n * q := ⟨b / 2 ^ n, by rw [Nat.mul_div_cancel' (Nat.dvd_of_mod_eq_zero hm')]⟩
  rw [Nat.or_comm, <- Nat.two_pow_add_eq_or_of_lt ha' q]
  omega
theorem pow2_64 (k : Nat) (h : k < 8) : (2 : Int) ^ min (IntKind.i64.wrap (8 * (k : Int))).toNat 64 = 2 ^ (8 * k) := by
  rw [wrap_i (by omega) (by omega), show min (8 * (k : Int)).toNat 64 = 8 * k by omega]
theorem byteX_val {x : Int} (h0 : 0 <= x) (k : Nat) (h : k < 8) : byteX x k = x / 2 ^ (8 * k) % 256 := by
  unfold byteX
  rw [pow2_64 k h, u8w, Int.fdiv_eq_ediv_of_nonneg _ (Int.le_of_lt (Int.pow_pos (by decide)))]
theorem num4_val {x : Int} (h0 : 0 <= x) (h1 : x < 18446744073709551616) {f : Nat -> Int} {i : Nat} (h : ∀ j, j < 4 -> f (i + j) = byteX x j) : num4 f i = x % 4294967296 := by
  unfold num4
  rw [h 0 (by omega), h 1 (by omega), h 2 (by omega), h 3 (by omega), byteX_val h0 0 (by omega), byteX_val h0 1 (by omega), byteX_val h0 2 (by omega), byteX_val h0 3 (by omega)]
  simp only [u64w, Nat.mul_zero, Nat.mul_one, Int.reducePow, Nat.reduceMul]
  rw [show bits2 .or .u64 0 (x / 1 % 256 % 18446744073709551616 * 1 % 18446744073709551616) = (x % 256) by rw [or_add 0 (by omega) (by omega) (by omega) (by omega) (by omega) (by omega) (by omega)]; omega]
  rw [show bits2 .or .u64 (x % 256) (x / 256 % 256 % 18446744073709551616 * 256 % 18446744073709551616) = (x % 65536) by rw [or_add 8 (by omega) (by omega) (by omega) (by omega) (by omega) (by omega) (by omega)]; omega]
  rw [show bits2 .or .u64 (x % 65536) (x / 65536 % 256 % 18446744073709551616 * 65536 % 18446744073709551616) = (x % 16777216) by rw [or_add 16 (by omega) (by omega) (by omega) (by omega) (by omega) (by omega) (by omega)]; omega]
  rw [show bits2 .or .u64 (x % 16777216) (x / 16777216 % 256 % 18446744073709551616 * 16777216 % 18446744073709551616) = (x % 4294967296) by rw [or_add 24 (by omega) (by omega) (by omega) (by omega) (by omega) (by omega) (by omega)]; omega]
theorem p2le {n : Nat} (h : n <= 61) : (2 : Int) ^ n <= 2305843009213693952 := by
  have : (2 : Nat) ^ n <= 2 ^ 61 := Nat.pow_le_pow_right (by decide) h
  have : ((2 ^ n : Nat) : Int) <= ((2 ^ 61 : Nat) : Int) := by exact_mod_cast this
  simpa using this
section
variable (op : Int)
end
theorem or_gap {k w a b : Nat} (hb : b < 2 ^ (k + w)) (hm : b % 2 ^ k = 0) (hg : a % 2 ^ (k + w) < 2 ^ k) : a ||| b = a + b := by
  obtain ⟨t, rfl⟩ : ∃ t, b = 2 ^ k * t := ⟨b / 2 ^ k, by rw [Nat.mul_div_cancel' (Nat.dvd_of_mod_eq_zero hm)]⟩
  have e : a = 2 ^ (k + w) * (a / 2 ^ (k + w)) + a % 2 ^ (k + w) := (Nat.div_add_mod _ _).symm
  have hlt : a % 2 ^ (k + w) < 2 ^ (k + w) := Nat.mod_lt _ (Nat.two_pow_pos _)
  generalize a / 2 ^ (k + w) = h at e
  generalize a % 2 ^ (k + w) = l at *
  subst e
  have h1 : 2 ^ k * t + l < 2 ^ (k + w) := by
    have ht : t < 2 ^ w := by
      rw [Nat.pow_add] at hb
      exact Nat.lt_of_mul_lt_mul_left hb
    have h2 : 2 ^ k * (t + 1) <= 2 ^ k * 2 ^ w := Nat.mul_le_mul_left _ ht
    rw [Nat.pow_add]
    rw [Nat.mul_add, Nat.mul_one] at h2
    omega
  rw [Nat.two_pow_add_eq_or_of_lt hlt h, Nat.or_assoc, Nat.or_comm l, <- Nat.two_pow_add_eq_or_of_lt hg t, <- Nat.two_pow_add_eq_or_of_lt h1 h, <- Nat.two_pow_add_eq_or_of_lt hlt h]
  omega
theorem orW_add {a b : Int} (k w : Nat) (ha : isU a) (hb : isU b) (h1 : b < 2 ^ (k + w)) (h2 : b % 2 ^ k = 0) (h3 : a % 2 ^ (k + w) < 2 ^ k) : orW a b = a + b := by
  rw [or_nat ha hb]
  unfold isU at ha hb
  obtain ⟨x, rfl⟩ : ∃ x : Nat, a = x := ⟨a.toNat, by omega⟩
  obtain ⟨y, rfl⟩ : ∃ y : Nat, b = y := ⟨b.toNat, by omega⟩
  rw [Int.toNat_natCast, Int.toNat_natCast, or_gap (k := k) (w := w) (by exact_mod_cast h1) (by exact_mod_cast h2) (by exact_mod_cast h3)]
  omega
theorem and32 {x : Int} (w : Nat) (hw : w <= 31) (h0 : 0 <= x) (h1 : x < 4294967296) {m : Int} (hm : m = 2 ^ w - 1) : bits2 .and .u32 x m = x % 2 ^ w := by
  obtain ⟨x, rfl⟩ : ∃ k : Nat, x = k := ⟨x.toNat, by omega⟩
  have hp : 2 ^ w <= 2 ^ 31 := Nat.pow_le_pow_right (by decide) hw
  have hp0 : 0 < 2 ^ w := Nat.two_pow_pos _
  have hc : ((2 ^ w : Nat) : Int) = (2 : Int) ^ w := by simp
  have hm' : m = ((2 ^ w - 1 : Nat) : Int) := by rw [hm, <- hc]; omega
  rw [hm']
  show IntKind.u32.wrap (BitVec.ofInt 32 (x : Int) &&& BitVec.ofInt 32 ((2 ^ w - 1 : Nat) : Int)).toNat = _
  rw [BitVec.toNat_and, BitVec.toNat_ofInt, BitVec.toNat_ofInt, u32_wrap]
  rw [show (((x : Int) % ((2 ^ 32 : Nat) : Int)).toNat) = x by omega, show ((((2 ^ w - 1 : Nat) : Int) % ((2 ^ 32 : Nat) : Int)).toNat) = 2 ^ w - 1 by omega, Nat.and_two_pow_sub_one_eq_mod]
  have : x % 2 ^ w <= x := Nat.mod_le _ _
  have e : ((x % 2 ^ w : Nat) : Int) = (x : Int) % 2 ^ w := by simp
  omega
theorem bitsAt_val {imm d m s : Int} (w : Nat) (hw : w <= 31) (hd : 0 < d) (hm : m = 2 ^ w - 1) : bitsAt imm d m s = imm % 4294967296 / d % 2 ^ w * s % 4294967296 := by
  unfold bitsAt
  have h0 : 0 <= imm % 4294967296 := by omega
  have h1 : imm % 4294967296 < 4294967296 := by omega
  rw [u32_wrap imm, Int.fdiv_eq_ediv_of_nonneg _ (Int.le_of_lt hd), and32 w hw (Int.ediv_nonneg h0 (Int.le_of_lt hd)) (Int.lt_of_le_of_lt (Int.ediv_le_self _ h0) h1) hm, u32_wrap]
theorem and1 (x : Int) : bits2 .and .i64 x 1 = x % 2 := by
  show IntKind.i64.wrap (BitVec.ofInt 64 x &&& BitVec.ofInt 64 ((1 : Nat) : Int)).toNat = _
  rw [BitVec.toNat_and, BitVec.toNat_ofInt, BitVec.toNat_ofInt, show ((((1 : Nat) : Int) % ((2 ^ 64 : Nat) : Int)).toNat) = 2 ^ 1 - 1 by omega, Nat.and_two_pow_sub_one_eq_mod, wrap_i (by omega) (by omega)]
  omega
structure FldOK (o f3 f7 : Int) : Prop where
  o : 0 <= o /\ o < 128
  f3 : 0 <= f3 /\ f3 < 8
  f7 : 0 <= f7 /\ f7 < 128
theorem wordB_sum {o f3 f7 rd rs1 rs2 : Int} (h : FldOK o f3 f7) (hd : regI rd) (h1 : regI rs1) (h2 : regI rs2) :
    wordB o f3 f7 rd rs1 rs2 = o + f3 * 4096 + f7 * 33554432 + rd * 128 + rs1 * 32768 + rs2 * 1048576 := by
  obtain ⟨ho, h3, h7⟩ := h
  unfold regI at hd h1 h2
  show orW (orW (orW (orW (orW o _) _) _) _) _ = _
  simp only [u32_wrap]
  rw [show rd % 4294967296 * 128 % 4294967296 = rd * 128 by omega, show rs1 % 4294967296 * 32768 % 4294967296 = rs1 * 32768 by omega, show rs2 % 4294967296 * 1048576 % 4294967296 = rs2 * 1048576 by omega,
    show f3 * 4096 % 4294967296 = f3 * 4096 by omega, show f7 * 33554432 % 4294967296 = f7 * 33554432 by omega]
  rw [orW_add (a := o) 12 3 ⟨by omega, by omega⟩ ⟨by omega, by omega⟩ (by omega) (by omega) (by omega)]
  rw [orW_add (a := o + f3 * 4096) 25 7 ⟨by omega, by omega⟩ ⟨by omega, by omega⟩ (by omega) (by omega) (by omega)]
  rw [orW_add (a := o + f3 * 4096 + f7 * 33554432) 7 5 ⟨by omega, by omega⟩ ⟨by omega, by omega⟩ (by omega) (by omega) (by omega)]
  rw [orW_add (a := o + f3 * 4096 + f7 * 33554432 + rd * 128) 15 5 ⟨by omega, by omega⟩ ⟨by omega, by omega⟩ (by omega) (by omega) (by omega)]
  rw [orW_add (a := o + f3 * 4096 + f7 * 33554432 + rd * 128 + rs1 * 32768) 20 5 ⟨by omega, by omega⟩ ⟨by omega, by omega⟩ (by omega) (by omega) (by omega)]
theorem fld {o f3 f7 : Int} (h : (decide (0 <= o) && (decide (o < 128) && (decide (0 <= f3) && (decide (f3 < 8) && (decide (0 <= f7) && decide (f7 < 128)))))) = true) : FldOK o f3 f7 := by
  simp only [Bool.and_eq_true, decide_eq_true_eq] at h
  exact ⟨⟨h.1, h.2.1⟩, ⟨h.2.2.1, h.2.2.2.1⟩, ⟨h.2.2.2.2.1, h.2.2.2.2.2⟩⟩
theorem encF_neg (m : Nat) (rd rs1 rs2 imm : Int) : encF (.negSucc m) rd rs1 rs2 imm = (0, 2) := rfl
theorem encF_big (m : Nat) (rd rs1 rs2 imm : Int) : encF (.ofNat (m + 56)) rd rs1 rs2 imm = (0, 2) := rfl
end Go.X
