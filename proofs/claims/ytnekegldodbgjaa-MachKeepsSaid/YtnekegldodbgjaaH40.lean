import Derived.Test.YtnekegldodbgjaaH39
set_option linter.all false
namespace Go.X
open Go Go.Proofs
def Ins.v (i : Ins) : Value := i18 i.op i.rd i.rs1 i.rs2 i.imm
def encV (p : Int × Int) : Value := .tuple ⟨[.int .u32 p.1, .int .i64 p.2]⟩
def EncV (i : Ins) (p : Int × Int) : Prop := ∀ n, ADet Try.prog 47 [i.v] [] (encV p) [] n 0
noncomputable def con47 (E : Ins -> Int × Int) : Con Try.prog where
  f := 47
  run := fun vs h n => match vs with
    | [.agg ⟨[.int .i64 a, .int .i64 b, .int .i64 c, .int .i64 d, .int .i64 e]⟩] => some ([], encV (E ⟨a, b, c, d, e⟩), [], 0, decP (EncV ⟨a, b, c, d, e⟩ (E ⟨a, b, c, d, e⟩)))
    | _ => none
  ok := fun vs h n pre v upd news hx => by
    split at hx
    · rename_i a b c d e
      simp only [Option.some.injEq, Prod.mk.injEq] at hx
      obtain ⟨rfl, rfl, rfl, rfl, hA⟩ := hx
      exact ⟨fun id hid => by simp [fstL] at hid, of_decP hA n⟩
    · cases hx
def itB (T : Nat) (J : Nat -> Ins) : Blk := .rows T 5 (fun j => (J j).row) false true
noncomputable abbrev sc23 (E : Ins -> Int × Int) : Short := scOf [con47 E]
end Go.X
namespace Go.X
open Go Go.Proofs
abbrev L41 (N C : Nat) : Value := .slice (some ⟨41, 0, none⟩) N C
def w4 (w : Int) : Nat -> List Value := fun j => slab [.int .u8 (IntKind.u8.wrap w), .int .u8 (IntKind.u8.wrap (w.fdiv 256)), .int .u8 (IntKind.u8.wrap (w.fdiv 65536)), .int .u8 (IntKind.u8.wrap (w.fdiv 16777216))] ((0 + j) * 1) 1
theorem p23_a (N C T : Nat) (J : Nat -> Ins) : walk (lookF FL) noSc 1000 x23 (argTm 0 [L41 N C]) (mkH [(41, itB T J)]) 100 ⟨[], [], [], []⟩ ⟨[], [], [], []⟩ ⟨[10, 3, 9, 8], [], [], [41]⟩ =
    some ⟨⟨[some (true, .int .i64 0), some (true, .slice none 0 0), some (true, .int .i64 (N : Int)), some (true, L41 N C)], [], .normal, 100⟩, some (x23_17, [.bl 0, .sq x23_22])⟩ := by kernel_rfl
section
variable (E : Ins -> Int × Int) (N C T i : Nat) (J : Nat -> Ins) (oN : Nat) (of : Nat -> Int)
theorem p23_n : walk (lookF FL) (sc23 E) 1000 x23_17 (mkT [10, 3, 9, 8] [.int .i64 (i : Int), .slice none 0 0, .int .i64 (N : Int), L41 N C]) (mkH [(41, itB T J)]) 102 ⟨[10, 3], [.tmp 3], [9, 8], [41]⟩ ⟨[], [], [], []⟩ ⟨[], [], [], []⟩ =
    bif decide ((i : Int) < N) then bif (Nat.blt (0 + i) T && true || false) && ((intRange i N && true || false) && true) then bif (decP (EncV (J (0 + i)) (E (J (0 + i)))) || false) && true then bif (E (J (0 + i))).2 == 0 then
      some ⟨⟨[some (true, .int .i64 (IntKind.i64.wrap ((i : Int) + 1))), some (true, newS 104 4)], [(104, some (.rows 4 1 (rowCat (fun _ => []) 0 0 (w4 (E (J (0 + i))).1)) true false))], .normal, 105⟩, none⟩ else none else none else none else none := by kernel_rfl
theorem p23_m : walk (lookF FL) (sc23 E) 1000 x23_17 (mkT [10, 3, 9, 8] [.int .i64 (i : Int), .slice none 0 0, .int .i64 (N : Int), L41 N C]) (mkH [(41, itB T J)]) 102 ⟨[10, 3], [], [9, 8], [41]⟩ ⟨[], [], [], []⟩ ⟨[], [], [], []⟩ =
    bif decide ((i : Int) < N) then bif (Nat.blt (0 + i) T && true || false) && ((intRange i N && true || false) && true) then bif (decP (EncV (J (0 + i)) (E (J (0 + i)))) || false) && true then bif (E (J (0 + i))).2 == 0 then
      some ⟨⟨[some (true, .int .i64 (IntKind.i64.wrap ((i : Int) + 1))), some (true, newS 104 4)], [], .normal, 105⟩, none⟩
      else some ⟨⟨[some (true, .int .i64 (IntKind.i64.wrap ((i : Int) + 1))), some (true, .slice none 0 0)], [], .normal, 103⟩, none⟩ else none else none
      else some ⟨⟨[some (true, .int .i64 (i : Int)), some (true, .slice none 0 0)], [], .exit 0, 102⟩, none⟩ := by kernel_rfl
theorem p23_b : walk (lookF FL) (sc23 E) 1000 x23_17 (mkT [10, 3, 9, 8] [.int .i64 (i : Int), newS 101 oN, .int .i64 (N : Int), L41 N C]) (mkH [(101, outB oN of), (41, itB T J)]) 102 ⟨[10, 3], [.tmp 3], [9, 8], [41]⟩ ⟨[], [], [], []⟩ ⟨[], [], [], []⟩ =
    bif decide ((i : Int) < N) then bif (Nat.blt (0 + i) T && true || false) && ((intRange i N && true || false) && true) then bif (decP (EncV (J (0 + i)) (E (J (0 + i)))) || false) && true then bif (E (J (0 + i))).2 == 0 then
      bif !(oN + 4).ble oN && true && (oN.ble oN && (0 + oN).ble oN) && true && decide ((oN + 4) * 3 <= 1099511627776) && true && true then
      some ⟨⟨[some (true, .int .i64 (IntKind.i64.wrap ((i : Int) + 1))), some (true, newS 104 (oN + 4))], [(104, some (.rows (oN + 4) 1 (rowCat (fun j => [.int .u8 (of j)]) 0 oN (w4 (E (J (0 + i))).1)) true false))], .normal, 105⟩, none⟩ else none
      else some ⟨⟨[some (true, .int .i64 (IntKind.i64.wrap ((i : Int) + 1))), some (true, newS 101 oN)], [(101, some (outB oN of))], .normal, 103⟩, none⟩ else none else none
      else some ⟨⟨[some (true, .int .i64 (i : Int)), some (true, newS 101 oN)], [(101, some (outB oN of))], .exit 0, 102⟩, none⟩ := by kernel_rfl
end
def byteOf (w : Int) : Nat -> Int
  | 0 => IntKind.u8.wrap w
  | 1 => IntKind.u8.wrap (w.fdiv 256)
  | 2 => IntKind.u8.wrap (w.fdiv 65536)
  | _ => IntKind.u8.wrap (w.fdiv 16777216)
theorem w4_eq (w : Int) : ∀ j, j < 4 -> w4 w j = [.int .u8 (byteOf w j)]
  | 0, _ => rfl
  | 1, _ => rfl
  | 2, _ => rfl
  | 3, _ => rfl
  | j + 4, h => by omega
def add4 (of : Nat -> Int) (n : Nat) (w : Int) : Nat -> Int := fun j => bif Nat.blt j n then of j else byteOf w (j - n)
def byS (E : Ins -> Int × Int) (J : Nat -> Ins) : Nat -> Nat × (Nat -> Int)
  | 0 => (0, fun _ => 0)
  | i + 1 => bif (E (J i)).2 == 0 then ((byS E J i).1 + 4, add4 (byS E J i).2 (byS E J i).1 (E (J i)).1) else byS E J i
theorem byS_le (E : Ins -> Int × Int) (J : Nat -> Ins) : ∀ i, (byS E J i).1 <= 4 * i
  | 0 => Nat.le_refl _
  | i + 1 => by
    have := byS_le E J i
    rw [byS]
    cases (E (J i)).2 == 0 <;> simp only [cond_true, cond_false] <;> omega
def ext23 (bo : Bool) (b : Blk) : List (Nat × Blk) := bif bo then [(101, b)] else []
def S23 (N C T : Nat) (J : Nat -> Ins) (p : Nat × (Nat -> Int)) (i : Nat) : St := ⟨mkT [10, 3, 9, 8] [.int .i64 (i : Int), vO (bO p.1) p.1, .int .i64 (N : Int), L41 N C], mkH (ext23 (bO p.1) (outB p.1 p.2) ++ [(41, itB T J)]), 102⟩
theorem bis_itB {P : Program} {σ : Nm} {T : Nat} {J : Nat -> Ins} : BIs P σ (itB T J) (itB T J) := ⟨rfl, rfl, fun _ _ => rfl, .inr (.inl rfl), .inl rfl⟩
theorem bis_add {P : Program} {σ : Nm} {n : Nat} {of : Nat -> Int} {w : Int} {f : Nat -> List Value} (hf : ∀ j, j < n -> f j = [.int .u8 (of j)]) : BIs P σ (outB (n + 4) (add4 of n w)) (.rows (n + 4) 1 (rowCat f 0 n (w4 w)) true false) := by
  refine ⟨rfl, rfl, fun j hj => ?_, .inl rfl, .inr rfl⟩
  show _ = cond (Nat.blt j n) (f (0 + j)) (w4 w (j - n))
  by_cases h : j < n
  · rw [lt_blt h, cond_true, Nat.zero_add, hf j h]
    show [Value.int .u8 (add4 of n w j)] = _
    unfold add4; rw [lt_blt h]; rfl
  · have hb : Nat.blt j n = false := by rw [blt_dec]; simp; omega
    rw [hb, cond_false, w4_eq w _ (by omega)]
    show [Value.int .u8 (add4 of n w j)] = _
    unfold add4; rw [hb]; rfl
theorem leaf23n {E : FEnv} (hP : E.P = Try.prog) (hn : E.B.n = 100) {N C T i : Nat} {J : Nat -> Ins} {i' : Nat} (of : Nat -> Int) (w : Int) (k : Int) (hk : k = (i' : Int)) :
    LeafTo E ([10, 3] ++ [9, 8]) (ext ⟨[10, 3], [.tmp 3], [9, 8], [41]⟩ (mkT [10, 3, 9, 8] [.int .i64 (i : Int), .slice none 0 0, .int .i64 (N : Int), L41 N C]) (mkH [(41, itB T J)])
      ⟨[some (true, .int .i64 k), some (true, newS 104 4)], [(104, some (.rows 4 1 (rowCat (fun _ => []) 0 0 (w4 w)) true false))], .normal, 105⟩)
      (S23 N C T J (4, add4 of 0 w) i') := by
  subst hk
  refine ⟨_, _, _, rfl, ?_, ?_, ?_⟩ <;> rw [hn]
  · rfl
  · exact ⟨rfl, rfl, rfl, rfl, trivial⟩
  · rw [hP]
    exact ⟨bis_add (n := 0) (of := of) fun j hj => absurd hj (Nat.not_lt_zero _), bis_itB, trivial⟩
theorem leaf23m {E : FEnv} (hP : E.P = Try.prog) (hn : E.B.n = 100) {N C T i : Nat} {J : Nat -> Ins} {i' : Nat} (k : Int) (hk : k = (i' : Int)) (of : Nat -> Int) (ex : Exit) (n : Nat) (h102 : 102 <= n) (hex : ex ≠ .ret):
    LeafTo E ([10, 3] ++ [9, 8]) (ext ⟨[10, 3], [], [9, 8], [41]⟩ (mkT [10, 3, 9, 8] [.int .i64 (i : Int), .slice none 0 0, .int .i64 (N : Int), L41 N C]) (mkH [(41, itB T J)])
      ⟨[some (true, .int .i64 k), some (true, .slice none 0 0)], [], ex, n⟩)
      (S23 N C T J (0, of) i') := by
  subst hk
  refine ⟨_, _, _, rfl, ?_, ?_, ?_⟩ <;> rw [hn]
  · rfl
  · exact ⟨rfl, rfl, rfl, rfl, trivial⟩
  · rw [hP]
    exact ⟨bis_itB, trivial⟩
theorem leaf23b {E : FEnv} (hP : E.P = Try.prog) (hn : E.B.n = 100) {N C T i oN : Nat} {of : Nat -> Int} {J : Nat -> Ins} {i' : Nat} (w : Int) (k : Int) (hk : k = (i' : Int)) :
    LeafTo E ([10, 3] ++ [9, 8]) (ext ⟨[10, 3], [.tmp 3], [9, 8], [41]⟩ (mkT [10, 3, 9, 8] [.int .i64 (i : Int), newS 101 oN, .int .i64 (N : Int), L41 N C]) (mkH [(101, outB oN of), (41, itB T J)])
      ⟨[some (true, .int .i64 k), some (true, newS 104 (oN + 4))], [(104, some (.rows (oN + 4) 1 (rowCat (fun j => [.int .u8 (of j)]) 0 oN (w4 w)) true false))], .normal, 105⟩)
      (S23 N C T J (oN + 4, add4 of oN w) i') := by
  subst hk
  refine ⟨_, _, _, rfl, ?_, ?_, ?_⟩ <;> rw [hn]
  · rfl
  · exact ⟨rfl, rfl, rfl, rfl, trivial⟩
  · rw [hP]
    exact ⟨bis_add fun j hj => rfl, bis_itB, trivial⟩
theorem leaf23o {E : FEnv} (hP : E.P = Try.prog) (hn : E.B.n = 100) {N C T i oN : Nat} {of : Nat -> Int} {J : Nat -> Ins} {i' : Nat} (hbo : bO oN = true) (k : Int) (hk : k = (i' : Int)) (ex : Exit) (n : Nat) :
    LeafTo E ([10, 3] ++ [9, 8]) (ext ⟨[10, 3], [.tmp 3], [9, 8], [41]⟩ (mkT [10, 3, 9, 8] [.int .i64 (i : Int), newS 101 oN, .int .i64 (N : Int), L41 N C]) (mkH [(101, outB oN of), (41, itB T J)])
      ⟨[some (true, .int .i64 k), some (true, newS 101 oN)], [(101, some (outB oN of))], ex, n⟩)
      (S23 N C T J (oN, of) i') := by
  subst hk
  unfold S23
  rw [hbo]
  refine ⟨_, _, _, rfl, ?_, ?_, ?_⟩ <;> rw [hn]
  · rfl
  · exact ⟨rfl, rfl, rfl, rfl, trivial⟩
  · rw [hP]
    exact ⟨bis_outB, bis_itB, trivial⟩
end Go.X
namespace Go.X
open Go Go.Proofs
theorem bO_false {n : Nat} (h : bO n = false) : n = 0 := by
  cases n with
  | zero => rfl
  | succ n => cases h
theorem loop23 {E : FEnv} {Q : Post} (hcl : Cl E.toEnv Q) (hP : E.P = Try.prog) (hn : E.B.n = 100) {N C T : Nat} {J : Nat -> Ins} {F : Ins -> Int × Int} (hE : ∀ j, j < N -> EncV (J j) (F (J j))) (hT : N <= T) (hN : N <= 10000000000)
    (hQ : Q (.exit 0) (S23 N C T J (byS F J N) N)) : XWP E.toEnv (.loop x23_17) Q (S23 N C T J (byS F J 0) 0) := by
  refine xwp_loopR (ι := Nat) (fun i => S23 N C T J (byS F J i) i) (fun i => i <= N) (fun i => N - i) 0 (Nat.zero_le _) fun i hi => ?_
  have hcr := cl_round (S := fun i => S23 N C T J (byS F J i) i) (I := fun i => i <= N) (μ := fun i => N - i) (i := i) hcl
  have FO : FnsOK E.P (lookF FL) (sc23 F) := hP ▸ fok FOK _
  have hle := byS_le F J i
  obtain ⟨oN, of, hb⟩ : ∃ oN of, byS F J i = (oN, of) := ⟨_, _, rfl⟩
  have hnx : byS F J (i + 1) = bif (F (J i)).2 == 0 then (oN + 4, add4 of oN (F (J i)).1) else (oN, of) := by rw [byS, hb]
  rw [hb] at hle
  simp only at hle
  have g1 : i < N -> ((Nat.blt (0 + i) T && true || false) && ((intRange i N && true || false) && true)) = true := fun h => by
    rw [Nat.zero_add, lt_blt (show i < T by omega)]
    simp [intRange]; omega
  have g2 : i < N -> ((decP (EncV (J (0 + i)) (F (J (0 + i)))) || false) && true) = true := fun h => by
    rw [Nat.zero_add, decP_true (hE i h)]; rfl
  have hw : i < N -> IntKind.i64.wrap ((i : Int) + 1) = ((i + 1 : Nat) : Int) := fun h => by rw [wrap_i (by omega) (by omega)]; omega
  have next : ∀ {p : Nat × (Nat -> Int)}, i < N -> p = byS F J (i + 1) -> roundP E.toEnv (fun i => S23 N C T J (byS F J i) i) (fun i => i <= N) (fun i => N - i) i Q .normal (S23 N C T J p (i + 1)) := fun h hp => by
    subst hp
    exact ⟨i + 1, h, by simp only; omega, Wk.refl _ _⟩
  simp only [hb]
  cases hbo : bO oN with
  | false =>
    have h0 := bO_false hbo
    subst h0
    show XWP E.toEnv x23_17 _ ⟨mkT [10, 3, 9, 8] [.int .i64 (i : Int), .slice none 0 0, .int .i64 (N : Int), L41 N C], mkH [(41, itB T J)], 102⟩
    by_cases hlt : i < N
    · cases hz : (F (J i)).2 == 0 with
      | true =>
        have e := p23_n F N C T i J
        rw [decide_eq_true (show (i : Int) < N by omega), g1 hlt, g2 hlt, Nat.zero_add, hz] at e
        simp only [cond_true] at e
        rw [hw hlt] at e
        refine xwp_toEnd (s := ⟨_, _, _⟩) hcr FO 1000 e _ (leaf23n hP hn of _ _ rfl) (next hlt ?_)
        rw [hnx, hz]
        rfl
      | false =>
        have e := p23_m F N C T i J
        rw [decide_eq_true (show (i : Int) < N by omega), g1 hlt, g2 hlt, Nat.zero_add, hz] at e
        simp only [cond_true, cond_false] at e
        rw [hw hlt] at e
        refine xwp_toEnd (s := ⟨_, _, _⟩) hcr FO 1000 e _ (leaf23m hP hn _ rfl of _ _ (by omega) (by simp)) (next hlt ?_)
        rw [hnx, hz]; rfl
    · have e := p23_m F N C T i J
      rw [decide_eq_false (show ¬ (i : Int) < N by omega)] at e
      simp only [cond_false] at e
      have : i = N := by omega
      subst this
      refine xwp_toEnd (s := ⟨_, _, _⟩) hcr FO 1000 e _ (leaf23m hP hn _ rfl of _ _ (by omega) (by simp)) ?_
      rw [hb] at hQ; exact hQ
  | true =>
    show XWP E.toEnv x23_17 _ (S23 N C T J (oN, of) i)
    unfold S23
    rw [hbo]
    show XWP E.toEnv x23_17 _ ⟨mkT [10, 3, 9, 8] [.int .i64 (i : Int), newS 101 oN, .int .i64 (N : Int), L41 N C], mkH [(101, outB oN of), (41, itB T J)], 102⟩
    have e := p23_b F N C T i J oN of
    by_cases hlt : i < N
    · have g3 : (!(oN + 4).ble oN && true && (oN.ble oN && (0 + oN).ble oN) && true && decide ((oN + 4) * 3 <= 1099511627776) && true && true) = true := by
        rw [Nat.zero_add, show (oN + 4).ble oN = false by rw [ble_dec]; simp, show oN.ble oN = true by simp, decide_eq_true (by omega)]; rfl
      rw [decide_eq_true (show (i : Int) < N by omega), g1 hlt, g2 hlt, Nat.zero_add, g3] at e
      simp only [cond_true] at e
      rw [hw hlt] at e
      cases hz : (F (J i)).2 == 0 with
      | true =>
        rw [hz] at e
        refine xwp_toEnd (s := ⟨_, _, _⟩) hcr FO 1000 e _ (leaf23b hP hn _ _ rfl) (next hlt ?_)
        rw [hnx, hz]; rfl
      | false =>
        rw [hz] at e
        refine xwp_toEnd (s := ⟨_, _, _⟩) hcr FO 1000 e _ (leaf23o hP hn hbo _ rfl _ _) (next hlt ?_)
        rw [hnx, hz]; rfl
    · rw [decide_eq_false (show ¬ (i : Int) < N by omega)] at e
      simp only [cond_false] at e
      have : i = N := by omega
      subst this
      refine xwp_toEnd (s := ⟨_, _, _⟩) hcr FO 1000 e _ (leaf23o hP hn hbo _ rfl _ _) ?_
      rw [hb] at hQ; exact hQ
end Go.X
namespace Go.X
open Go Go.Proofs
def vB (a : Nat) (bo : Bool) (n : Nat) : Value := bif bo then newS a n else .slice none 0 0
def upB (a : Nat) (bo : Bool) (b : Blk) : List (Nat × Blk) := bif bo then [(a, b)] else []
def nB (bo : Bool) : Nat := bif bo then 1 else 0
theorem p23_e (N C T : Nat) (J : Nat -> Ins) (i : Nat) (bo : Bool) (oN : Nat) (of : Nat -> Int) : walk (lookF FL) noSc 1000 x23_22 (mkT [10, 3, 9, 8] [.int .i64 (i : Int), vO bo oN, .int .i64 (N : Int), L41 N C]) (mkH (ext23 bo (outB oN of) ++ [(41, itB T J)])) 102 ⟨[], [], [], []⟩ ⟨[2], bif bo then [.id 101] else [], [], [41]⟩ ⟨[], [], [], []⟩ =
    some ⟨⟨[some (true, vO bo oN)], bif bo then [(101, some (outB oN of))] else [], .ret, 102⟩, none⟩ := by cases bo <;> kernel_rfl
theorem b23 {N C T : Nat} {J : Nat -> Ins} {F : Ins -> Int × Int} (hE : ∀ j, j < N -> EncV (J j) (F (J j))) (hT : N <= T) (hN : N <= 10000000000) {oN : Nat} {of : Nat -> Int} (hb : byS F J N = (oN, of)) :
    Body Try.prog 23 [L41 N C] (mkH [(41, itB T J)]) (vB 100 (bO oN) oN) (mkH (upB 100 (bO oN) (outB oN of))) 100 (nB (bO oN)) := by
  refine body_of mixed fx23 (by simp) fun ρ w hd => ?_
  let E := envOf Try.prog 37 100 (mkH [(41, itB T J)]) mixed ρ w hd
  refine xwp_toLoop (E := E) (s := ⟨argTm 0 [L41 N C], mkH [(41, itB T J)], 100⟩) FOK 1000 (p23_a N C T J) (S23 N C T J (byS F J 0) 0) ⟨_, _, _, rfl, rfl, ⟨rfl, rfl, rfl, rfl, trivial⟩, bis_itB, trivial⟩ ?_
  refine loop23 (E := E) (cl_ctx cl_fin _) rfl rfl hE hT hN ?_
  rw [hb]
  show XWP E.toEnv x23_22 _ (S23 N C T J (oN, of) N)
  have e := p23_e N C T J N (bO oN) oN of
  refine xwp_toEnd (E := E) (s := ⟨_, _, _⟩) cl_fin FOK 1000 e ⟨mkT [2] [vB 100 (bO oN) oN], mkH (upB 100 (bO oN) (outB oN of) ++ [(41, itB T J)]), 100 + nB (bO oN)⟩ ⟨_, _, _, rfl, ?_, ?_, ?_⟩ (fin_of rfl ?_ rfl ?_)
  · cases bO oN <;> rfl
  · cases bO oN <;> exact ⟨rfl, trivial⟩
  · cases bO oN
    · exact ⟨bis_itB, trivial⟩
    · exact ⟨bis_outB, bis_itB, trivial⟩
  · cases bO oN
    · exact ⟨rfl, trivial⟩
    · exact ⟨rfl, rfl, trivial⟩
  · cases bO oN <;> rfl
abbrev L60 (N C : Nat) : Value := .slice (some ⟨60, 0, none⟩) N C
end Go.X
namespace Go.X
open Go Go.Proofs
def newM (k L : Nat) (inp : Nat -> Int) (sz : Nat) : MS := ⟨sz, fun j => bif Nat.blt j L then inp (k + j) else 0, fun _ => 0, 0, 0, 0, ⟨0, fun _ => false⟩⟩
def MS.mAt (m : MS) (a b : Nat) : Blk := .var ([.slice (some ⟨a, 0, none⟩) m.sz m.sz] ++ regs m.x ++ [.int .u64 m.pl, .int .i64 m.st, .int .u8 m.cd, .map (some b)])
def exJ' (bi : Bool) : List Nat := bif bi then [40] else []
def mem22 (bi : Bool) (k L : Nat) (inp : Nat -> Int) (sz : Nat) : Blk := .rows sz 1 (rowPut (fun _ => [.int .u8 0]) 0 (min (bif bi then L else 0) sz) (fun j => bif bi then [.int .u8 (inp (k + j))] else [])) false false
def old22 : Blk := .map 35 26 0 (fun _ => false) (fun _ => i18 0 0 0 0 0)
theorem p22 (bi : Bool) (k L C T : Nat) (sz : Nat) (inp : Nat -> Int) (hL : bi = false -> L = 0) (h1 : L <= sz) (h2 : sz <= 4194304) (hT : bi = true -> k + L <= T) :
    walk (lookF FL) noSc 1000 x22 (argTm 0 [vI bi k L C, .int .i64 (sz : Int)]) (mkH (exI bi (inB T inp))) 100 ⟨[], [], [], []⟩ ⟨[4, 5], [.id 100, .id 101, .id 102], [], exJ' bi⟩ ⟨[], [], [], []⟩ =
      some ⟨⟨[some (true, .pointer (some ⟨102, 0, some 0⟩)), some (true, .int .i64 0)], [(100, some (mem22 bi k L inp sz)), (101, some old22), (102, some ((newM k L inp sz).mAt 100 101))], .ret, 103⟩, none⟩ := by
  cases bi with
  | false =>
    have hL0 := hL rfl
    subst hL0
    have e : walk (lookF FL) noSc 1000 x22 (argTm 0 [vI false k 0 C, .int .i64 (sz : Int)]) (mkH (exI false (inB T inp))) 100 ⟨[], [], [], []⟩ ⟨[4, 5], [.id 100, .id 101, .id 102], [], exJ' false⟩ ⟨[], [], [], []⟩ =
      bif bif decide ((sz : Int) < 0) then true else decide ((sz : Int) > 4194304) then some ⟨⟨[some (true, .pointer none), some (true, .int .i64 1)], [(100, none), (101, none), (102, none)], .ret, 100⟩, none⟩
        else bif decide (0 <= (sz : Int)) && decide ((sz : Int) <= (sz : Int)) && decide ((sz : Int) * 3 <= 1099511627776) && true && true then bif (0 + sz).ble sz && true && true then
          some ⟨⟨[some (true, .pointer (some ⟨102, 0, some 0⟩)), some (true, .int .i64 0)], [(100, some (mem22 false k 0 inp sz)), (101, some old22), (102, some ((newM k 0 inp sz).mAt 100 101))], .ret, 103⟩, none⟩ else none else none := by kernel_rfl
    rw [e]
    simp only [decide_eq_false (show ¬ (sz : Int) < 0 by omega), decide_eq_false (show ¬ (sz : Int) > 4194304 by omega), decide_eq_true (show 0 <= (sz : Int) by omega), decide_eq_true (Int.le_refl (sz : Int)), decide_eq_true (show (sz : Int) * 3 <= 1099511627776 by omega), Nat.zero_add, show sz.ble sz = true by simp]
    rfl
  | true =>
    have e : walk (lookF FL) noSc 1000 x22 (argTm 0 [vI true k L C, .int .i64 (sz : Int)]) (mkH (exI true (inB T inp))) 100 ⟨[], [], [], []⟩ ⟨[4, 5], [.id 100, .id 101, .id 102], [], exJ' true⟩ ⟨[], [], [], []⟩ =
      bif ((!decide ((sz : Int) < (L : Int)) || decide ((sz : Int) < (L : Int))) && true || false) && ((!decide ((sz : Int) < (L : Int)) && true || !!decide ((sz : Int) < (L : Int))) && true) then bif bif decide ((sz : Int) < (L : Int)) then true else decide ((sz : Int) > 4194304) then some ⟨⟨[some (true, .pointer none), some (true, .int .i64 1)], [(100, none), (101, none), (102, none)], .ret, 100⟩, none⟩
        else bif decide (0 <= (sz : Int)) && decide ((sz : Int) <= (sz : Int)) && decide ((sz : Int) * 3 <= 1099511627776) && true && true then bif (k + L).ble T && true && (0 + sz).ble sz && true && true then
          some ⟨⟨[some (true, .pointer (some ⟨102, 0, some 0⟩)), some (true, .int .i64 0)], [(100, some (mem22 true k L inp sz)), (101, some old22), (102, some ((newM k L inp sz).mAt 100 101))], .ret, 103⟩, none⟩ else none else none else none := by kernel_rfl
    rw [e]
    simp only [decide_eq_false (show ¬ (sz : Int) < (L : Int) by omega), decide_eq_false (show ¬ (sz : Int) > 4194304 by omega), decide_eq_true (show 0 <= (sz : Int) by omega), decide_eq_true (Int.le_refl (sz : Int)), decide_eq_true (show (sz : Int) * 3 <= 1099511627776 by omega), Nat.zero_add, show sz.ble sz = true by simp, show (k + L).ble T = true by rw [ble_dec]; simp; exact hT rfl]
    rfl
theorem bis_mem22 {P : Program} {σ : Nm} {bi : Bool} {k L : Nat} {inp : Nat -> Int} {sz : Nat} (hL : bi = false -> L = 0) (h1 : L <= sz) : BIs P σ (newM k L inp sz).memB (mem22 bi k L inp sz) := by
  refine ⟨rfl, rfl, fun j hj => ?_, by first | exact .inl rfl | exact .inr rfl | exact .inr (.inl rfl), by first | exact .inl rfl | exact .inr rfl⟩
  show rnL _ [.int .u8 (bif Nat.blt j L then inp (k + j) else 0)] = cond (Nat.ble 0 j && Nat.blt j (0 + min (bif bi then L else 0) sz)) (bif bi then [.int .u8 (inp (k + (j - 0)))] else []) [.int .u8 0]
  have h0 : Nat.ble 0 j = true := by simp
  rw [h0, Bool.true_and, Nat.zero_add, Nat.sub_zero]
  cases bi with
  | false =>
    have := hL rfl
    subst this
    have : Nat.blt j 0 = false := by rw [blt_dec]; simp
    rw [this, cond_false, cond_false]; simp only [Nat.zero_min, this, cond_false]; rfl
  | true =>
    rw [cond_true, Nat.min_eq_left h1, cond_true]
    cases Nat.blt j L <;> rfl
theorem bis_old {P : Program} {σ : Nm} {k L : Nat} {inp : Nat -> Int} {sz : Nat} : BIs P σ (newM k L inp sz).kn.blk old22 := ⟨rfl, rfl, rfl, fun d q _ _ => ⟨rfl, rfl⟩⟩
theorem bis_mAt {P : Program} {σ : Nm} {m : MS} {a b a' b' : Nat} (ha : σ a = some a') (hb : σ b = some b') : BIs P σ (m.mAt a b) (m.mAt a' b') := by
  show ren σ 4 (.slice (some ⟨a, 0, none⟩) m.sz m.sz) :: (rnL σ (regs m.x ++ [.int .u64 m.pl, .int .i64 m.st, .int .u8 m.cd]) ++ [ren σ 4 (.map (some b))]) = _
  simp only [ren, renP, ha, hb]
  rfl
def upd22 (m : MS) : Hp := mkH [(100, m.memB), (101, m.kn.blk), (102, m.mAt 100 101)]
theorem b22 {bi : Bool} {k L C T sz : Nat} {inp : Nat -> Int} (hL : bi = false -> L = 0) (h1 : L <= sz) (h2 : sz <= 4194304) (hT : bi = true -> k + L <= T) :
    Body Try.prog 22 [vI bi k L C, .int .i64 (sz : Int)] (mkH (exI bi (inB T inp))) (.tuple ⟨[.pointer (some ⟨102, 0, some 0⟩), .int .i64 0]⟩) (upd22 (newM k L inp sz)) 100 3 := by
  have e := p22 bi k L C T sz inp hL h1 h2 hT
  refine body_walk FOK fx22 (by simp) e rfl ⟨mkT [4, 5] [.pointer (some ⟨102, 0, some 0⟩), .int .i64 0], upd22 (newM k L inp sz) ++ mkH (exI bi (inB T inp)), 103⟩ (fun ρ w hd => ⟨[.pointer (some ⟨102, 0, some 0⟩), .int .i64 0], (100, (newM k L inp sz).memB) :: (101, (newM k L inp sz).kn.blk) :: (102, (newM k L inp sz).mAt 100 101) :: exI bi (inB T inp), 103, ?_, ?_, ?_, ?_⟩) ?_ rfl ?_
  · cases bi <;> rfl
  · cases bi <;> rfl
  · cases bi <;> exact ⟨rfl, rfl, trivial⟩
  · cases bi
    · exact ⟨bis_mem22 hL h1, bis_old, bis_mAt rfl rfl, trivial⟩
    · exact ⟨bis_mem22 hL h1, bis_old, bis_mAt rfl rfl, bis_inB, trivial⟩
  · cases bi
    · exact ⟨rfl, rfl, rfl, trivial⟩
    · exact ⟨rfl, rfl, rfl, rfl, trivial⟩
  · cases bi <;> rfl
end Go.X
namespace Go.X
open Go Go.Proofs
section
variable (n o : Int) (i N : Nat) (f : Nat -> List Value)
end
def v7 (i : Nat) : Value := bif bO i then L60 (2 * i) (2 * i) else .slice none 0 0
end Go.X
namespace Go.X
open Go Go.Proofs
def e7 : REnv := ⟨false, 0, fun _ => 0, 0, 0, 0, false⟩
section
variable {N : Nat} {r : Int} (hN : N <= 510) (h0 : 0 <= r) (h1 : r < 32)
end
end Go.X
namespace Go.X
open Go Go.Proofs
def vM3 (a : Nat) : Value := .tuple ⟨[.pointer (some ⟨a, 0, some 0⟩), .int .i64 0]⟩
end Go.X
namespace Go.X
open Go Go.Proofs
end Go.X
namespace Go.X
open Go Go.Proofs
end Go.X
namespace Go.X
open Go Go.Proofs
theorem c23_at {N C : Nat} {J : Nat -> Ins} {F : Ins -> Int × Int} (hE : ∀ j, j < N -> EncV (J j) (F (J j))) (hN : N <= 10000000000) {oN : Nat} {of : Nat -> Int} (hb : byS F J N = (oN, of)) (hbo : bO oN = true) {T : Nat} (hT : N <= T) {f : Nat -> List Value} {o r : Bool} (hf : ∀ j, j < T -> f j = (J j).row)
    (b n : Nat) (hbn : b < n) : ADet Try.prog 23 [.slice (some ⟨b, 0, none⟩) N C] [(b, some (.rows T 5 f o r))] (newS n oN) (mkH [(n, outB oN of)]) n 1 := by
  have h : ADet Try.prog 23 [.slice (some ⟨b, 0, none⟩) N C] [(b, some (.rows T 5 f o true))] (newS n oN) (mkH [(n, outB oN of)]) n 1 := by
    have h41 : ∀ {σ : Nm}, BIs Try.prog σ (itB T J) (.rows T 5 f o true) := ⟨rfl, rfl, fun j hj => by rw [hf j hj]; rfl, .inr (.inr rfl), .inl rfl⟩
    have h41' : ∀ {σ : Nm}, BIs Try.prog σ (.rows T 5 f o true) (itB T J) := ⟨rfl, rfl, fun j hj => by rw [hf j hj]; rfl, .inr (.inl rfl), .inl rfl⟩
    have b1 := beq_ff (show n ≠ b by omega)
    have b2 := beq_ff (show b ≠ n by omega)
    have bn := beq_tt n
    have bb := beq_tt b
    have hbd := b23 (C := C) hE hT hN hb
    rw [hbo] at hbd
    have s1 : asc ([(n, 100)] ++ flip [(41, b)]) n = some 100 := by simp only [List.cons_append, asc, bn, cond_true]
    have s3 : asc ([(n, 100)] ++ flip [(41, b)]) b = some 41 := by simp only [List.cons_append, List.nil_append, flip, asc, b1, bb, cond_true, cond_false]
    refine adet_of_body hbd [(41, b)] [(n, 100)] ?_ rfl ?_ rfl ?_ ?_ ?_
    · refine (show ((Nat.blt 41 100 && Nat.beq b b && true) && ((Nat.ble n n && Nat.blt n (n + 1)) && true) && true && true) = true from ?_)
      simp [lt_blt]
    · refine ⟨?_, trivial⟩
      show (match hget [(b, some (Blk.rows T 5 f o true))] b with | some x => BIs Try.prog (asc [(41, b)]) (itB T J) x | none => False)
      simp only [hget, bb, cond_true]
      exact h41
    · show renP _ n 0 none _ = _
      simp only [renP, s1]; rfl
    · simp only [mkH, List.cons_append, List.nil_append, HsOK, natMem, b1, b2, bn, Bool.or_false, Bool.false_or]
      rw [show asc ((n, 100) :: flip [(41, b)]) n = some 100 from s1, show asc ((n, 100) :: flip [(41, b)]) b = some 41 from s3]
      exact ⟨bis_outB, h41', trivial⟩
    · simp only [mkH, List.cons_append, List.nil_append, namesOf, natMem, b1, b2, bn, Bool.or_false, Bool.false_or]
      rw [show asc ((n, 100) :: flip [(41, b)]) n = some 100 from s1, show asc ((n, 100) :: flip [(41, b)]) b = some 41 from s3]
      rfl
  cases r with
  | true => exact h
  | false => exact adet_demote h (by simp [mkH, fstL]; omega) rfl
theorem c22_at {L C sz : Nat} {inp : Nat -> Int} (h1 : L <= sz) (h2 : sz <= 4194304) (b n : Nat) (hbn : b < n) {T : Nat} (hT : L <= T) {f : Nat -> List Value} {o r : Bool} (hf : ∀ j, j < T -> f j = [.int .u8 (inp j)]) :
    ADet Try.prog 22 [.slice (some ⟨b, 0, none⟩) L C, .int .i64 (sz : Int)] [(b, some (.rows T 1 f o r))] (vM3 (n + 2)) (mkH [(n, (newM 0 L inp sz).memB), (n + 1, (newM 0 L inp sz).kn.blk), (n + 2, (newM 0 L inp sz).mAt n (n + 1))]) n 3 := by
  have h : ADet Try.prog 22 [.slice (some ⟨b, 0, none⟩) L C, .int .i64 (sz : Int)] [(b, some (.rows T 1 f o true))] (vM3 (n + 2)) (mkH [(n, (newM 0 L inp sz).memB), (n + 1, (newM 0 L inp sz).kn.blk), (n + 2, (newM 0 L inp sz).mAt n (n + 1))]) n 3 := by
    have ha : ∀ {σ : Nm}, BIs Try.prog σ (inB T inp) (.rows T 1 f o true) := ⟨rfl, rfl, fun j hj => by rw [hf j hj]; rfl, .inr (.inr rfl), .inl rfl⟩
    have ha' : ∀ {σ : Nm}, BIs Try.prog σ (.rows T 1 f o true) (inB T inp) := ⟨rfl, rfl, fun j hj => by rw [hf j hj]; rfl, .inr (.inl rfl), .inl rfl⟩
    have hk : ∀ {σ : Nm}, BIs Try.prog σ (newM 0 L inp sz).kn.blk (newM 0 L inp sz).kn.blk := bis_kn
    have b1 := beq_ff (show n ≠ b by omega)
    have b2 := beq_ff (show n + 1 ≠ b by omega)
    have b3 := beq_ff (show n + 2 ≠ b by omega)
    have b4 := beq_ff (show b ≠ n by omega)
    have b5 := beq_ff (show b ≠ n + 1 by omega)
    have b6 := beq_ff (show b ≠ n + 2 by omega)
    have c1 := beq_ff (show n ≠ n + 1 by omega)
    have c2 := beq_ff (show n ≠ n + 2 by omega)
    have c3 := beq_ff (show n + 1 ≠ n + 2 by omega)
    have c4 := beq_ff (show n + 1 ≠ n by omega)
    have c5 := beq_ff (show n + 2 ≠ n by omega)
    have c6 := beq_ff (show n + 2 ≠ n + 1 by omega)
    have bn := beq_tt n
    have bn1 := beq_tt (n + 1)
    have bn2 := beq_tt (n + 2)
    have bb := beq_tt b
    have s1 : asc ((n, 100) :: (n + 1, 101) :: (n + 2, 102) :: flip [(40, b)]) n = some 100 := by simp only [asc, bn, cond_true]
    have s2 : asc ((n, 100) :: (n + 1, 101) :: (n + 2, 102) :: flip [(40, b)]) (n + 1) = some 101 := by simp only [asc, c1, bn1, cond_true, cond_false]
    have s3 : asc ((n, 100) :: (n + 1, 101) :: (n + 2, 102) :: flip [(40, b)]) (n + 2) = some 102 := by simp only [asc, c2, c3, bn2, cond_true, cond_false]
    have s4 : asc ((n, 100) :: (n + 1, 101) :: (n + 2, 102) :: flip [(40, b)]) b = some 40 := by simp only [flip, asc, b1, b2, b3, bb, cond_true, cond_false]
    refine adet_of_body (b22 (bi := true) (k := 0) (L := L) (C := C) (T := T) (sz := sz) (inp := inp) (fun h => by cases h) h1 h2 (fun _ => by omega)) [(40, b)] [(n, 100), (n + 1, 101), (n + 2, 102)] ?_ rfl ?_ rfl ?_ ?_ ?_
    · refine (show ((Nat.blt 40 100 && Nat.beq b b && true) && ((Nat.ble n n && Nat.blt n (n + 3)) && ((Nat.ble n (n + 1) && Nat.blt (n + 1) (n + 3)) && ((Nat.ble n (n + 2) && Nat.blt (n + 2) (n + 3)) && true))) && true && true) = true from ?_)
      simp [lt_blt]
    · refine ⟨?_, trivial⟩
      show (match hget [(b, some (Blk.rows T 1 f o true))] b with | some x => BIs Try.prog (asc [(40, b)]) (inB T inp) x | none => False)
      simp only [hget, bb, cond_true]
      exact ha
    · show (.tuple ⟨[renP _ (n + 2) 0 (some 0) _, .int .i64 0]⟩ : Value) = _
      simp only [List.cons_append, List.nil_append, renP, s3]
    · simp only [mkH, List.cons_append, List.nil_append, HsOK, natMem, b1, b2, b3, b4, b5, b6, c1, c2, c3, c4, c5, c6, bn, bn1, bn2, Bool.or_false, Bool.false_or]
      rw [s1, s2, s3, s4]
      exact ⟨bis_mem, hk, bis_mAt s1 s2, ha', trivial⟩
    · simp only [mkH, List.cons_append, List.nil_append, namesOf, natMem, b1, b2, b3, b4, b5, b6, c1, c2, c3, c4, c5, c6, bn, bn1, bn2, Bool.or_false, Bool.false_or]
      rw [s1, s2, s3, s4]
      rfl
  cases r with
  | true => exact h
  | false => exact adet_demote h (by simp [mkH, fstL]; omega) rfl
end Go.X
namespace Go.X
open Go Go.Proofs
structure OKM (m : MS) : Prop where
  sz : szB m.sz = true
  pl : uB m.pl = true
  x : ∀ j, uB (m.x j) = true
  kn : m.kn.OK
section
variable (m0 m : MS) (mk : Int) (tk : Bool)
end
end Go.X
namespace Go.X
open Go Go.Proofs
def e0 (wt : Bool) : REnv := ⟨false, 0, fun _ => 0, 0, 0, 0, wt⟩
theorem base0 {wt : Bool} {m : MS} (h : OKM m) : BaseOK (e0 wt) 0 (RSt.init m) /\ (RSt.init m).sN <= 0 := ⟨⟨h.sz, h.pl, h.x, h.kn, fun j hj => absurd hj (Nat.not_lt_zero _), Nat.le_refl _, Nat.le_refl _, Nat.le_refl _, Nat.le_refl _⟩, Nat.le_refl _⟩
def runM (wt : Bool) (m : MS) (fuel : Nat) : RSt × Nat := runF (stepF (e0 wt)) fuel (RSt.init m) 0
theorem runM_ok {wt : Bool} {m : MS} (h : OKM m) {fuel : Nat} (hf : fuel <= 1000000000) : OKM (runM wt m fuel).1.m /\ SeOK (runM wt m fuel).1.sN (runM wt m fuel).1.sf := by
  have H := steps_all (e0 wt) (fuel := (fuel : Int)) (by omega)
  rcases run_ok H fuel 0 (RSt.init m) (by omega) (base0 h) with ⟨n', hb, _⟩ | ⟨n', s1, ⟨hb, _⟩, e⟩
  · exact ⟨⟨hb.sz, hb.pl, hb.x, hb.kn⟩, hb.se⟩
  · unfold runM; rw [e]; exact ⟨⟨hb.sz, hb.pl, hb.x, hb.kn⟩, hb.se⟩
def inb0 : Blk := inB 0 fun _ => 0
theorem run48 (wt : Bool) {m : MS} (h : OKM m) {fuel : Nat} (hf : fuel <= 1000000000) {s : RSt} {n : Nat} (hr : runM wt m fuel = (s, n)) :
    Body Try.prog 48 [pM, vI false 0 0 0, .int .i64 (fuel : Int), .bool wt] (mkH (pre48 m false inb0)) (val48 s.m (bO s.oN) (bO s.sN) s.oN s.sN n s.mark) (upd48 s.m (bO s.oN) (bO s.sN) s.oN s.of s.sN s.sf n s.mark) 100 4 :=
  b48 (e0 wt) (fuel := (fuel : Int)) (by omega) (steps_all (e0 wt) (by omega)) (by omega) m (base0 h) hr
theorem run27 {m : MS} (h : OKM m) {fuel : Nat} (hf : fuel <= 1000000000) {s : RSt} {n : Nat} (hr : runM true m fuel = (s, n)) :
    Body Try.prog 27 [pM, .slice none 0 0, .int .i64 (fuel : Int)] (mkH m.H) (.tuple ⟨[resV24 s.m (vO (bO s.oN) s.oN) n s.mark, vW (bO s.sN) s.sN]⟩) (upd27 s.m (bO s.oN) (bO s.sN) s.oN s.of s.sN s.sf n s.mark) 100 3 := by
  have hse := (runM_ok (wt := true) h hf).2
  rw [hr] at hse
  exact b27 (bi := false) (k := 0) (L := 0) (C := 0) (T := 0) (inp := fun _ => 0) hse (run48 true h hf hr)
end Go.X
namespace Go.X
open Go Go.Proofs
end Go.X
namespace Go.X
open Go Go.Proofs
def inK (k : Int) : Bool := bif decide (k > 0) then decide (k < 32) else false
def setM (m : MS) (k v : Int) : MS := bif inK k then { m with x := fun j => bif Nat.beq (j + 1) (1 + k.toNat * 1) then v else m.x j } else m
end Go.X
namespace Go.X
open Go Go.Proofs
abbrev pAt (c : Nat) : Value := .pointer (some ⟨c, 0, some 0⟩)
def MS.HA (m : MS) (a b c : Nat) : List (Nat × Blk) := [(a, m.memB), (b, m.kn.blk), (c, m.mAt a b)]
def upd27g (a b c : Nat) (m : MS) (bo bs : Bool) (oN : Nat) (of : Nat -> Int) (sN : Nat) (sf : Nat -> List Value) (n mk : Int) : Hp := mkH ([(130, resB m (vOa 131 bo oN) n mk), (a, m.memB), (b, m.kn.blk), (c, m.mAt a b)] ++ extN 131 132 bo bs (outB oN of) (seB sN sf))
theorem bis_resO {P : Program} {σ : Nm} {m : MS} {bo : Bool} {oN : Nat} {n mk : Int} {a b : Nat} (h : bo = true -> σ a = some b) : BIs P σ (resB m (vOa a bo oN) n mk) (resB m (vOa b bo oN) n mk) := by
  show [_, _, _, ren σ 4 (vOa a bo oN), _, _] = _
  have : ren σ 4 (vOa a bo oN) = vOa b bo oN := by
    cases bo with
    | false => rfl
    | true => simp only [vOa, cond_true, ren, renP, h rfl]
  rw [this]; rfl
theorem c27_0 {m : MS} (h : OKM m) {fuel : Nat} (hf : fuel <= 1000000000) {s : RSt} {n : Nat} (hr : runM true m fuel = (s, n)) :
    AtN 27 [pAt 92, .slice none 0 0, .int .i64 (fuel : Int)] (m.HA 90 91 92) (.tuple ⟨[resV24 s.m (vOa 131 (bO s.oN) s.oN) n s.mark, vOa 132 (bO s.sN) s.sN]⟩) (upd27g 90 91 92 s.m (bO s.oN) (bO s.sN) s.oN s.of s.sN s.sf n s.mark) 130 3 := by
  have hb := run27 h hf hr
  have hse := (runM_ok (wt := true) h hf).2
  rw [hr] at hse
  have hs : ∀ {σ : Nm}, BIs Try.prog σ (seB s.sN s.sf) (seB s.sN s.sf) := bis_seB fun j hj => hse j hj _
  refine ⟨rfl, adet_of_body hb [(90, 90), (91, 91), (92, 92)] [(130, 100), (131, 101), (132, 102)] ?_ rfl ⟨bis_mem, bis_kn, bis_mAt (a := 90) (b := 91) rfl rfl, trivial⟩ rfl ?_ ?_ ?_⟩
  · cases bO s.oN <;> cases bO s.sN <;> rfl
  · cases bO s.oN <;> cases bO s.sN <;> rfl
  · cases bO s.oN <;> cases bO s.sN
    · exact ⟨rfl, bis_mem, bis_kn, bis_mAt rfl rfl, trivial, trivial, trivial, trivial⟩
    · exact ⟨rfl, bis_mem, bis_kn, bis_mAt rfl rfl, hs, trivial, trivial, trivial, trivial⟩
    · exact ⟨bis_resO (fun _ => rfl), bis_mem, bis_kn, bis_mAt rfl rfl, bis_outB, trivial, trivial, trivial, trivial⟩
    · exact ⟨bis_resO (fun _ => rfl), bis_mem, bis_kn, bis_mAt rfl rfl, bis_outB, hs, trivial, trivial, trivial, trivial⟩
  · cases bO s.oN <;> cases bO s.sN <;> rfl
end Go.X
namespace Go.X
open Go Go.Proofs
end Go.X
