import Derived.Test.YtnekegldodbgjaaC35
set_option linter.all false
set_option linter.unusedVariables false
set_option linter.unusedSimpArgs false
namespace Go.X
open Go Go.Proofs
set_option linter.unusedVariables false
set_option linter.unusedSimpArgs false
/-! ### Assemble: what it comes to -/
structure ASt where
  wd : Nat → Bool
  m : LMap
  pl : Nat → Int
def widN (I : Its) (N : Nat) (s : ASt) : WSt := widIt I s.m s.pl ⟨false, s.wd⟩ N
def nextA (I : Its) (at_ : Int) (N : Nat) (s : ASt) : ASt :=
  ⟨(widN I N s).wd, (layIt I (widN I N s).wd ⟨at_, s.m, s.pl⟩ N).m, (layIt I (widN I N s).wd ⟨at_, s.m, s.pl⟩ N).pl⟩
def fixN (I : Its) (at_ : Int) (N : Nat) : Nat → ASt → ASt
  | 0, s => s
  | f + 1, s => bif (widN I N s).more then fixN I at_ N f (nextA I at_ N s) else s
def cntF (f : Nat → Bool) : Nat → Nat
  | 0 => 0
  | n + 1 => cntF f n + (bif f n then 0 else 1)
theorem cnt_le (f : Nat → Bool) : ∀ n, cntF f n ≤ n
  | 0 => Nat.le_refl _
  | n + 1 => by have := cnt_le f n; simp only [cntF]; cases f n <;> simp <;> omega
theorem cnt_mono {f g : Nat → Bool} (h : ∀ j, f j = true → g j = true) : ∀ n, cntF g n ≤ cntF f n
  | 0 => Nat.le_refl _
  | n + 1 => by
    have := cnt_mono h n
    simp only [cntF]
    cases hf : f n with
    | true => rw [h n hf]; simpa using this
    | false => cases g n <;> simp <;> omega
theorem cnt_lt {f g : Nat → Bool} (h : ∀ j, f j = true → g j = true) : ∀ n, (∃ j, j < n ∧ f j = false ∧ g j = true) → cntF g n < cntF f n
  | 0, ⟨j, hj, _⟩ => absurd hj (Nat.not_lt_zero j)
  | n + 1, ⟨j, hj, h1, h2⟩ => by
    simp only [cntF]
    by_cases e : j = n
    · subst e
      have := cnt_mono h j
      rw [h1, h2]; simp; omega
    · have := cnt_lt h n ⟨j, by omega, h1, h2⟩
      cases hf : f n with
      | true => rw [h n hf]; simpa using this
      | false => cases g n <;> simp <;> omega
theorem wid_facts (I : Its) (m : LMap) (pl : Nat → Int) (wd : Nat → Bool) : ∀ k, (∀ j, wd j = true → (widIt I m pl ⟨false, wd⟩ k).wd j = true) ∧
    ((widIt I m pl ⟨false, wd⟩ k).more = false → (widIt I m pl ⟨false, wd⟩ k).wd = wd) ∧ ((widIt I m pl ⟨false, wd⟩ k).more = true → ∃ j, j < k ∧ wd j = false ∧ (widIt I m pl ⟨false, wd⟩ k).wd j = true)
  | 0 => ⟨fun _ h => h, fun _ => rfl, fun h => by cases h⟩
  | k + 1 => by
    obtain ⟨h1, h2, h3⟩ := wid_facts I m pl wd k
    simp only [widIt, widStep]
    cases hf : farF I m pl (widIt I m pl ⟨false, wd⟩ k).wd k with
    | false =>
      simp only [cond_false]
      exact ⟨h1, h2, fun h => by obtain ⟨j, hj, a, b⟩ := h3 h; exact ⟨j, by omega, a, b⟩⟩
    | true =>
      simp only [cond_true]
      refine ⟨fun j hj => ?_, (fun h => by cases h), fun _ => ?_⟩
      · simp only [upd]; cases Nat.beq j k <;> simp [h1 j hj]
      · have hk : (widIt I m pl ⟨false, wd⟩ k).wd k = false := by
          unfold farF at hf
          simp only [Bool.and_eq_true, Bool.not_eq_true'] at hf
          exact hf.1.2
        refine ⟨k, by omega, ?_, by simp [upd]⟩
        cases hw : wd k with
        | false => rfl
        | true => rw [h1 k hw] at hk; cases hk
/-- All instructions that are to be words, of the first items. -/
def insK (I : Its) (s : ASt) (k j : Nat) : List Ins := (List.range j).map (wordI I s.wd s.m s.pl k)
def insTo (I : Its) (s : ASt) : Nat → List Ins
  | 0 => []
  | k + 1 => insTo I s k ++ (bif isE (I.lb k) then insK I s k (wordsN I s.wd k) else [])
def okI (i : Ins) : Bool := (encF i.op i.rd i.rs1 i.rs2 i.imm).2 == 0
def encW (i : Ins) : Int := (encF i.op i.rd i.rs1 i.rs2 i.imm).1
def m0 : LMap := ⟨0, fun _ => false, fun _ => 0⟩
def startA (I : Its) (at_ : Int) (N : Nat) : ASt := ⟨fun _ => false, (layIt I (fun _ => false) ⟨at_, checkM I at_ N m0, fun _ => 0⟩ N).m, (layIt I (fun _ => false) ⟨at_, checkM I at_ N m0, fun _ => 0⟩ N).pl⟩
def finA (I : Its) (at_ : Int) (N : Nat) : ASt := fixN I at_ N (N + 1) (startA I at_ N)
def asmW (I : Its) (at_ : Int) (N : Nat) : List Int := (insTo I (finA I at_ N) N).map encW
/-- What Assemble says is wrong. -/
def asmE (I : Its) (at_ : Int) (N : Nat) : Int :=
  bif checkE I at_ N m0 != 0 then checkE I at_ N m0 else bif !(insTo I (finA I at_ N) N).all okI then 16 else bif decide (((asmW I at_ N).length : Int) > 65536) then 3 else 0
theorem ins_stop {I : Its} {s : ASt} {k N : Nat} (h : (insTo I s k).all okI = false) (hk : k ≤ N) : (insTo I s N).all okI = false := by
  induction N with
  | zero => have : k = 0 := by omega
            subst this; exact h
  | succ n ih =>
    by_cases e : k = n + 1
    · subst e; exact h
    · simp only [insTo, List.all_append, ih (by omega), Bool.false_and]
theorem insTo_len (I : Its) (s : ASt) : ∀ k, (insTo I s k).length ≤ 2 * k
  | 0 => Nat.le_refl _
  | k + 1 => by
    have := insTo_len I s k
    simp only [insTo, List.length_append]
    have h2 : wordsN I s.wd k ≤ 2 := by unfold wordsN; cases twoF I s.wd k <;> simp
    cases isE (I.lb k)
    · simp; omega
    · simp [insK]; omega
end Go.X
namespace Go.X
open Go Go.Proofs
set_option linter.unusedVariables false
set_option linter.unusedSimpArgs false
def outV : List Int → Value
  | [] => .slice none 0 0
  | a :: l => .slice (some ⟨104, 0, none⟩) (l.length + 1) (l.length + 1)
def outH : List Int → List (Nat × Blk)
  | [] => []
  | a :: l => [(104, .rows (l.length + 1) 1 (fun j => [.int .u32 ((a :: l).getD j 0)]) true false)]
theorem bis_u32 {P : Program} {σ : Nm} {n : Nat} {g : Nat → Int} {o r : Bool} : BIs P σ (.rows n 1 (fun j => [.int .u32 (g j)]) o r) (.rows n 1 (fun j => [.int .u32 (g j)]) o r) := bis_rw fun _ _ => rfl
theorem bis_ins {P : Program} {σ : Nm} {n : Nat} {g : Nat → Ins} {o r : Bool} : BIs P σ (.rows n 5 (insR g) o r) (.rows n 5 (insR g) o r) := bis_rw fun _ _ => rfl
theorem laid_dec (N C : Nat) (at_ : Int) (I : Its) (wd : Nat → Bool) (m : LMap) (pl : Nat → Int) (hN : N ≤ 1000000000) :
    decP (Blk.var [Value.slice (some (Addr.mk 2 0 none)) N C, Value.slice (some (Addr.mk 100 0 none)) N N, Value.int IntKind.i64 at_, Value.map (some 101), Value.slice (some (Addr.mk 102 0 none)) N N] = Blk.var [Value.slice (some (Addr.mk 2 0 none)) N C, Value.slice (some (Addr.mk 100 0 none)) N N, Value.int IntKind.i64 at_, Value.map (some 101), Value.slice (some (Addr.mk 102 0 none)) N N] ∧
      Blk.rows N 8 I.row false true = Blk.rows N 8 I.row false true ∧ Blk.rows N 1 (bools wd) false false = Blk.rows N 1 (bools wd) false false ∧ ((Blk.map 9 3 m.n m.has fun q ↦ Value.int IntKind.i64 (m.val q)) = Blk.map 9 3 m.n m.has fun q ↦ Value.int IntKind.i64 (m.val q)) ∧ Blk.rows N 1 (ints pl) false false = Blk.rows N 1 (ints pl) false false ∧ N < 9223372036854775808) = true :=
  decP_true ⟨rfl, rfl, rfl, rfl, rfl, by omega⟩
section
variable (N C : Nat) (at_ : Int) (I : Its)
abbrev SLI : Value := .slice (some ⟨2, 0, none⟩) N C
def S0A (s : ASt) : St := ⟨mkT [7, 0] [pp, SLI N C], mkH (laidA N C at_ I s.wd s.m s.pl), 104⟩
def V2A (k : Nat) (l : List Int) : List Value := [.int .i64 k, outV l, SLI N C, .int .i64 N, pp]
def H2A (s : ASt) (l : List Int) : List (Nat × Blk) := outH l ++ laidA N C at_ I s.wd s.m s.pl
def S2A (s : ASt) (k : Nat) (l : List Int) : St := ⟨mkT [40, 9, 38, 39, 7] (V2A N C k l), mkH (H2A N C at_ I s l), 105⟩
def V4A (k W j : Nat) (l : List Int) : List Value := [outV l, .int .i64 j, .slice (some ⟨105, 0, none⟩) W W, .int .i64 W, .int .i64 k, SLI N C, .int .i64 N, pp]
def H4A (s : ASt) (W : Nat) (R : Nat → Ins) (l : List Int) : List (Nat × Blk) := outH l ++ ((105, .rows W 5 (insR R) false false) :: laidA N C at_ I s.wd s.m s.pl)
def S4A (s : ASt) (k W : Nat) (R : Nat → Ins) (j : Nat) (l : List Int) : St := ⟨mkT [9, 52, 50, 51, 40, 38, 39, 7] (V4A N C k W j l), mkH (H4A N C at_ I s W R l), 106⟩
abbrev preA : Hp := mkH [(2, .rows N 8 I.row false true)]
variable {ρ : Rn} {w : World} {hd : ∀ id, 100 ≤ id → ρ id = none}
noncomputable abbrev EA (ρ : Rn) (w : World) (hd : ∀ id, 100 ≤ id → ρ id = none) : FEnv := envOf Try.prog 77 100 (preA N I) mixed ρ w hd
/-- Once around the loop that widens. -/
theorem asm_wide (s : ASt) (hN : N ≤ 1000000000) {Q : Post} (hcl : Cl (EA N I ρ w hd).toEnv Q)
    (h1 : (widN I N s).more = true → Q .normal (S0A N C at_ I (nextA I at_ N s))) (h2 : (widN I N s).more = false → Q (.exit 0) (S0A N C at_ I s)) : XWP (EA N I ρ w hd).toEnv x17_15 Q (S0A N C at_ I s) := by
  have e := p17_b N C at_ I s.wd s.m s.pl
  rw [laid_dec N C at_ I s.wd s.m s.pl hN, laid_dec N C at_ I _ s.m s.pl hN] at e
  simp only [cond_true] at e
  change walk _ _ _ _ _ _ _ _ _ _ = (bif (widN I N s).more then _ else _) at e
  cases hm : (widN I N s).more with
  | true =>
    rw [hm] at e
    exact xwp_toEnd hcl FOKE 1000 e (S0A N C at_ I (nextA I at_ N s)) ⟨[pp, SLI N C], laidA N C at_ I (nextA I at_ N s).wd (nextA I at_ N s).m (nextA I at_ N s).pl, 104, rfl, rfl, ⟨rfl, rfl, trivial⟩, bis_bools, bis_lmap, bis_ints, rfl, bis_its, trivial⟩ (h1 hm)
  | false =>
    rw [hm] at e
    have hw : (widN I N s).wd = s.wd := (wid_facts I s.m s.pl s.wd N).2.1 hm
    change walk _ _ _ _ _ _ _ _ _ _ = some ⟨⟨[], [(100, some (.rows N 1 (bools (widN I N s).wd) false false)), (101, some s.m.blk), (102, some (.rows N 1 (ints s.pl) false false))], .exit 0, 104⟩, none⟩ at e
    rw [hw] at e
    exact xwp_toEnd hcl FOKE 1000 e (S0A N C at_ I s) ⟨[pp, SLI N C], laidA N C at_ I s.wd s.m s.pl, 104, rfl, rfl, ⟨rfl, rfl, trivial⟩, bis_bools, bis_lmap, bis_ints, rfl, bis_its, trivial⟩ (h2 hm)
def nilsE (e : Int) : Value := .tuple ⟨[.slice none 0 0, .map none, .int .i64 e]⟩
theorem fin_err {e : Int} {Q : Post} (hQ : ∀ s', finP (EA N I ρ w hd).toEnv [(4, none), (5, none), (6, none)] (preA N I) (nilsE e) [] 0 .ret s' → Q .ret s') : Q .ret ⟨mkT [4, 5, 6] [.slice none 0 0, .map none, .int .i64 e], mkH [(2, .rows N 8 I.row false true)], 100⟩ :=
  hQ _ (fin_of rfl ⟨rfl, trivial⟩ rfl rfl)
/-- Once around the loop over the words of an item: what is wrong, else on. -/
theorem asm_word (s : ASt) (k W : Nat) (R : Nat → Ins) (j : Nat) (l : List Int) (hl : l.length ≤ 10000000000) (hW : j < W) (hW2 : W < 9223372036854775808) {Q : Post} (hcl : Cl (EA N I ρ w hd).toEnv Q)
    (h1 : okI (R j) = true → Q .normal (S4A N C at_ I s k W R (j + 1) (l ++ [encW (R j)]))) (h2 : okI (R j) = false → Q .ret ⟨mkT [4, 5, 6] [.slice none 0 0, .map none, .int .i64 16], mkH [(2, .rows N 8 I.row false true)], 100⟩) :
    XWP (EA N I ρ w hd).toEnv x17_44 Q (S4A N C at_ I s k W R j l) := by
  have key : ∀ (b : Bool), ((encF (R j).op (R j).rd (R j).rs1 (R j).rs2 (R j).imm).2 != 0) = b → okI (R j) = !b := by
    intro b h; subst h; unfold okI; cases hh : (encF (R j).op (R j).rd (R j).rs1 (R j).rs2 (R j).imm).2 == 0 <;> simp [bne, hh]
  cases l with
  | nil =>
    have e := p17_en k W j R N C at_ I s.wd s.m s.pl
    simp only [hW, decide_true, cond_true, wrap_succ hW hW2] at e
    cases hb : (encF (R j).op (R j).rd (R j).rs1 (R j).rs2 (R j).imm).2 != 0 with
    | true =>
      rw [hb] at e
      exact xwp_toEnd hcl FOKE 1000 e _ ⟨[.slice none 0 0, .map none, .int .i64 16], [(2, .rows N 8 I.row false true)], 100, rfl, rfl, ⟨rfl, rfl, rfl, trivial⟩, bis_its, trivial⟩ (h2 (key _ hb))
    | false =>
      rw [hb] at e
      exact xwp_toEnd hcl FOKE 1000 e (S4A N C at_ I s k W R (j + 1) [encW (R j)]) ⟨V4A N C k W (j + 1) [encW (R j)], H4A N C at_ I s W R [encW (R j)], 106, rfl, rfl, ⟨rfl, rfl, rfl, rfl, rfl, rfl, rfl, rfl, trivial⟩,
        ⟨rfl, rfl, fun i hi => by have : i = 0 := by omega
                                  subst this; rfl, .inl rfl, .inr rfl⟩, bis_ins, bis_bools, bis_lmap, bis_ints, rfl, bis_its, trivial⟩ (h1 (key _ hb))
  | cons a t =>
    have e := p17_es k W j (t.length + 1) (fun i => (a :: t).getD i 0) R N C at_ I s.wd s.m s.pl
    simp only [List.length_cons] at hl
    have g1 : decide (t.length + 1 + 1 ≤ t.length + 1) = false := by simp
    have g2 : decide ((t.length + 1 + 1) * 6 ≤ 1099511627776) = true := by simp; omega
    simp only [hW, decide_true, cond_true, wrap_succ hW hW2, g1, g2, Nat.le_refl, Bool.not_false, Bool.and_self] at e
    cases hb : (encF (R j).op (R j).rd (R j).rs1 (R j).rs2 (R j).imm).2 != 0 with
    | true =>
      rw [hb] at e
      exact xwp_toEnd hcl FOKE 1000 e _ ⟨[.slice none 0 0, .map none, .int .i64 16], [(2, .rows N 8 I.row false true)], 100, rfl, rfl, ⟨rfl, rfl, rfl, trivial⟩, bis_its, trivial⟩ (h2 (key _ hb))
    | false =>
      rw [hb] at e
      have hlen : (t ++ [encW (R j)]).length + 1 = t.length + 1 + 1 := by simp
      refine xwp_toEnd hcl FOKE 1000 e (S4A N C at_ I s k W R (j + 1) (a :: (t ++ [encW (R j)]))) ⟨V4A N C k W (j + 1) (a :: (t ++ [encW (R j)])), H4A N C at_ I s W R (a :: (t ++ [encW (R j)])), 106, rfl, rfl, ⟨?_, rfl, rfl, rfl, rfl, rfl, rfl, rfl, trivial⟩,
        ⟨hlen, rfl, fun i hi => ?_, .inl rfl, .inr rfl⟩, bis_ins, bis_bools, bis_lmap, bis_ints, rfl, bis_its, trivial⟩ (h1 (key _ hb))
      · simp only [V4A, outV, hlen]; rfl
      · show [Value.int .u32 ((a :: (t ++ [encW (R j)])).getD i 0)] = rowCat (fun i => [.int .u32 ((a :: t).getD i 0)]) 0 (t.length + 1) _ i
        by_cases h : i < t.length + 1
        · simp only [rowCat, lt_blt h, cond_true, Nat.zero_add]
          rw [← List.cons_append, List.getD_eq_getElem?_getD, List.getElem?_append_left (by simpa using h), List.getD_eq_getElem?_getD]
        · have hi' : i = t.length + 1 := by omega
          subst hi'
          have hb0 : Nat.blt (t.length + 1) (t.length + 1) = false := by rw [blt_dec]; simp
          simp only [rowCat, hb0, cond_false, Nat.sub_self]
          have : (a :: (t ++ [encW (R j)])).getD (t.length + 1) 0 = encW (R j) := by simp [List.getD]
          rw [this]; rfl
end
end Go.X
namespace Go.X
open Go Go.Proofs
set_option linter.unusedVariables false
set_option linter.unusedSimpArgs false
theorem decP_key {α : Type} {p : Prop} {x y : α} (h : p) : (bif decP p then x else y) = x := by rw [decP_true h]; rfl
theorem decP_key2 {α : Type} {p : Prop} {b : Bool} {x y : α} (h : p) (hb : b = true) : (bif decP p && b then x else y) = x := by rw [decP_true h, hb]; rfl
section
variable (N C : Nat) (at_ : Int) (I : Its)
def ErrSt (e : Int) : St := ⟨mkT [4, 5, 6] [.slice none 0 0, .map none, .int .i64 e], mkH [(2, .rows N 8 I.row false true)], 100⟩
def outV' : List Int → Value
  | [] => .slice none 0 0
  | a :: l => .slice (some ⟨100, 0, none⟩) (l.length + 1) (l.length + 1)
def outH' : List Int → List (Nat × Blk)
  | [] => []
  | a :: l => [(100, .rows (l.length + 1) 1 (fun j => [.int .u32 ((a :: l).getD j 0)]) true false)]
def OkSt (l : List Int) (m : LMap) : St := ⟨mkT [4, 5, 6] [outV' l, .map (some 101), .int .i64 0], mkH (outH' l ++ [(101, m.blk), (2, .rows N 8 I.row false true)]), 102⟩
def Err3 (l : List Int) (m : LMap) : St := ⟨mkT [4, 5, 6] [.slice none 0 0, .map none, .int .i64 3], mkH (outH' l ++ [(101, m.blk), (2, .rows N 8 I.row false true)]), 102⟩
variable {ρ : Rn} {w : World} {hd : ∀ id, 100 ≤ id → ρ id = none}
/-- The end: too many words, or all. -/
theorem asm_end (s : ASt) (k : Nat) (l : List Int) {Q : Post} (hcl : Cl (EA N I ρ w hd).toEnv Q)
    (h1 : decide ((l.length : Int) > 65536) = true → Q .ret (ErrSt N I 3)) (h2 : decide ((l.length : Int) > 65536) = false → Q .ret (OkSt N I l s.m)) : XWP (EA N I ρ w hd).toEnv x17_65 Q (S2A N C at_ I s k l) := by
  cases l with
  | nil =>
    have e := p17_gn k N C at_ I s.wd s.m s.pl
    exact xwp_toEnd hcl FOKE 1000 e _ ⟨[.slice none 0 0, .map (some 101), .int .i64 0], [(101, s.m.blk), (2, .rows N 8 I.row false true)], 102, rfl, rfl, ⟨rfl, rfl, rfl, trivial⟩, bis_lmap, bis_its, trivial⟩ (h2 (by simp))
  | cons a t =>
    have e := p17_gs k (t.length + 1) (fun i => (a :: t).getD i 0) N C at_ I s.wd s.m s.pl
    cases hb : decide (((t.length + 1 : Nat) : Int) > 65536) with
    | true =>
      rw [hb] at e
      have hq : Q .ret (Err3 N I (a :: t) s.m) := hcl _ _ (ErrSt N I 3) (weak (E := EA N I ρ w hd) (s := Err3 N I (a :: t) s.m) (s' := ErrSt N I 3) [] rfl rfl ⟨⟨rfl, rfl⟩, ⟨rfl, rfl⟩, ⟨rfl, rfl⟩, trivial⟩ ⟨bis_its, trivial⟩) (h1 hb)
      exact xwp_toEnd hcl FOKE 1000 e (Err3 N I (a :: t) s.m) ⟨[.slice none 0 0, .map none, .int .i64 3], outH' (a :: t) ++ [(101, s.m.blk), (2, .rows N 8 I.row false true)], 102, rfl, rfl, ⟨rfl, rfl, rfl, trivial⟩, bis_u32, bis_lmap, bis_its, trivial⟩ hq
    | false =>
      rw [hb] at e
      exact xwp_toEnd hcl FOKE 1000 e (OkSt N I (a :: t) s.m) ⟨[outV' (a :: t), .map (some 101), .int .i64 0], outH' (a :: t) ++ [(101, s.m.blk), (2, .rows N 8 I.row false true)], 102, rfl, rfl, ⟨rfl, rfl, rfl, trivial⟩, bis_u32, bis_lmap, bis_its, trivial⟩ (h2 hb)
theorem wordsN_pos (I : Its) (wd : Nat → Bool) (k : Nat) : 0 < wordsN I wd k ∧ wordsN I wd k ≤ 2 := by unfold wordsN; cases twoF I wd k <;> simp
theorem insK_succ (s : ASt) (k j : Nat) : insK I s k (j + 1) = insK I s k j ++ [wordI I s.wd s.m s.pl k j] := by simp [insK, List.range_succ]
/-- Once around the loop over items. -/
theorem asm_item (s : ASt) (k : Nat) (hk : k < N) (hN : N ≤ 1000000000) (hall : (insTo I s k).all okI = true) {Q : Post} (hcl : Cl (EA N I ρ w hd).toEnv Q)
    (h1 : (insTo I s (k + 1)).all okI = true → Q .normal (S2A N C at_ I s (k + 1) ((insTo I s (k + 1)).map encW))) (h2 : (insTo I s (k + 1)).all okI = false → Q .ret (ErrSt N I 16)) :
    XWP (EA N I ρ w hd).toEnv x17_54 Q (S2A N C at_ I s k ((insTo I s k).map encW)) := by
  have hk' : k < 9223372036854775807 := by omega
  have hN' : N < 9223372036854775808 := by omega
  cases hl : isE (I.lb k) with
  | false =>
    have hins : insTo I s (k + 1) = insTo I s k := by simp [insTo, hl]
    rw [hins] at h1
    have h1 := h1 hall
    generalize (insTo I s k).map encW = l at h1
    cases l with
    | nil =>
      have e := p17_dn k N C at_ I s.wd s.m s.pl
      simp only [hk, decide_true, cond_true, wrap_succ hk hN', isE_fold, hl, Bool.not_false] at e
      exact xwp_toEnd hcl FOKE 1000 e _ ⟨V2A N C (k + 1) [], H2A N C at_ I s [], 105, rfl, rfl, ⟨rfl, rfl, rfl, rfl, rfl, trivial⟩, bis_bools, bis_lmap, bis_ints, rfl, bis_its, trivial⟩ h1
    | cons a t =>
      have e := p17_ds k (t.length + 1) (fun i => (a :: t).getD i 0) N C at_ I s.wd s.m s.pl
      simp only [hk, decide_true, cond_true, wrap_succ hk hN', isE_fold, hl, Bool.not_false] at e
      exact xwp_toEnd hcl FOKE 1000 e _ ⟨V2A N C (k + 1) (a :: t), H2A N C at_ I s (a :: t), 105, rfl, rfl, ⟨rfl, rfl, rfl, rfl, rfl, trivial⟩, bis_u32, bis_bools, bis_lmap, bis_ints, rfl, bis_its, trivial⟩ h1
  | true =>
    have hins : insTo I s (k + 1) = insTo I s k ++ insK I s k (wordsN I s.wd k) := by simp [insTo, hl]
    obtain ⟨hW0, hW2⟩ := wordsN_pos I s.wd k
    -- the loop over the words
    have inner : XWP (EA N I ρ w hd).toEnv (.loop x17_44) (ctxP (EA N I ρ w hd).toEnv [.bl 4, .bl 3, .sq (.region x17_51)] Q) (S4A N C at_ I s k (wordsN I s.wd k) (wordI I s.wd s.m s.pl k) 0 ((insTo I s k ++ insK I s k 0).map encW)) := by
      refine xwp_loopR (fun j => S4A N C at_ I s k (wordsN I s.wd k) (wordI I s.wd s.m s.pl k) j ((insTo I s k ++ insK I s k j).map encW)) (fun j => j ≤ wordsN I s.wd k ∧ (insTo I s k ++ insK I s k j).all okI = true) (fun j => wordsN I s.wd k - j) 0
        ⟨Nat.zero_le _, by simpa [insK] using hall⟩ fun j hj => ?_
      by_cases hjW : j < wordsN I s.wd k
      · refine asm_word N C at_ I s k _ _ j _ ?_ hjW (by omega) (cl_round (cl_ctx hcl _)) (fun ho => ?_) (fun ho => ?_)
        · have := insTo_len I s k
          simp [insK]; omega
        · refine ⟨j + 1, ⟨hjW, ?_⟩, Nat.sub_succ_lt_self _ j hjW, ?_⟩
          · rw [insK_succ, ← List.append_assoc, List.all_append, hj.2]; simp [ho]
          · show Wk _ _ (S4A N C at_ I s k (wordsN I s.wd k) (wordI I s.wd s.m s.pl k) (j + 1) ((insTo I s k ++ insK I s k (j + 1)).map encW))
            rw [insK_succ, ← List.append_assoc, List.map_append (l₁ := insTo I s k ++ insK I s k j)]; exact Wk.refl _ _
        · show Q .ret _
          refine h2 ?_
          rw [hins]
          have hm : wordI I s.wd s.m s.pl k j ∈ insK I s k (wordsN I s.wd k) := List.mem_map.2 ⟨j, List.mem_range.2 hjW, rfl⟩
          rw [List.all_append]
          have : (insK I s k (wordsN I s.wd k)).all okI = false := by
            rw [List.all_eq_false]; exact ⟨_, hm, by simp [ho]⟩
          rw [this]; simp
      · have hjE : j = wordsN I s.wd k := by omega
        subst hjE
        rw [← hins] at hj ⊢
        have h1 := h1 hj.2
        have hne : (insTo I s (k + 1)).map encW ≠ [] := by
          rw [hins]
          intro h
          have := congrArg List.length h
          simp [insK] at this
          omega
        cases hlist : (insTo I s (k + 1)).map encW with
        | nil => exact absurd hlist hne
        | cons a t =>
          rw [hlist] at h1
          have e := p17_es k (wordsN I s.wd k) (wordsN I s.wd k) (t.length + 1) (fun i => (a :: t).getD i 0) (wordI I s.wd s.m s.pl k) N C at_ I s.wd s.m s.pl
          simp only [hjW, decide_false, cond_false] at e
          refine xwp_toEnd (cl_round (cl_ctx hcl _)) FOKE 1000 e (S4A N C at_ I s k (wordsN I s.wd k) (wordI I s.wd s.m s.pl k) (wordsN I s.wd k) (a :: t))
            ⟨V4A N C k (wordsN I s.wd k) (wordsN I s.wd k) (a :: t), H4A N C at_ I s (wordsN I s.wd k) (wordI I s.wd s.m s.pl k) (a :: t), 106, rfl, rfl, ⟨rfl, rfl, rfl, rfl, rfl, rfl, rfl, rfl, trivial⟩, bis_u32, bis_ins, bis_bools, bis_lmap, bis_ints, rfl, bis_its, trivial⟩ ?_
          show XWP _ (.region x17_51) _ _
          have ef := p17_fs k (wordsN I s.wd k) (wordsN I s.wd k) (t.length + 1) (fun i => (a :: t).getD i 0) (wordI I s.wd s.m s.pl k) N C at_ I s.wd s.m s.pl
          rw [wrap_succ hk hN'] at ef
          exact xwp_toEnd hcl FOKE 1000 ef _ ⟨V2A N C (k + 1) (a :: t), H2A N C at_ I s (a :: t), 105, rfl, rfl, ⟨rfl, rfl, rfl, rfl, rfl, trivial⟩, bis_u32, bis_bools, bis_lmap, bis_ints, rfl, bis_its, trivial⟩ h1
    have h00 : insTo I s k ++ insK I s k 0 = insTo I s k := by simp [insK]
    rw [h00] at inner
    clear h1
    generalize (insTo I s k).map encW = l at inner
    cases l with
    | nil =>
      have e := p17_dn k N C at_ I s.wd s.m s.pl
      simp only [hk, decide_true, cond_true, isE_fold, hl, Bool.not_true, cond_false] at e
      rw [decP_key2] at e
      · exact xwp_toLoop FOKE 1000 e _ ⟨V4A N C k (wordsN I s.wd k) 0 [], H4A N C at_ I s (wordsN I s.wd k) (wordI I s.wd s.m s.pl k) [], 106, rfl, rfl, ⟨rfl, rfl, rfl, rfl, rfl, rfl, rfl, rfl, trivial⟩, bis_ins, bis_bools, bis_lmap, bis_ints, rfl, bis_its, trivial⟩ inner
      · exact ⟨trivial, trivial, trivial, trivial, trivial, hN'⟩
      · simp
    | cons a t =>
      have e := p17_ds k (t.length + 1) (fun i => (a :: t).getD i 0) N C at_ I s.wd s.m s.pl
      simp only [hk, decide_true, cond_true, isE_fold, hl, Bool.not_true, cond_false] at e
      rw [decP_key2] at e
      · exact xwp_toLoop FOKE 1000 e _ ⟨V4A N C k (wordsN I s.wd k) 0 (a :: t), H4A N C at_ I s (wordsN I s.wd k) (wordI I s.wd s.m s.pl k) (a :: t), 106, rfl, rfl, ⟨rfl, rfl, rfl, rfl, rfl, rfl, rfl, rfl, trivial⟩, bis_u32, bis_ins, bis_bools, bis_lmap, bis_ints, rfl, bis_its, trivial⟩ inner
      · exact ⟨trivial, trivial, trivial, trivial, trivial, hN'⟩
      · simp
end
end Go.X
