import Derived.Test.YtnekegldodbgjaaF34
import Derived.Test.YtnekegldodbgjaaF32
set_option linter.all false
set_option linter.unusedVariables false
set_option linter.unusedSimpArgs false
namespace Go.X
open Go Go.Proofs
set_option linter.unusedVariables false
set_option linter.unusedSimpArgs false
structure In6 (e : REnv) : Prop where
  byte : ∀ j, j < e.L0 → 0 ≤ e.inp (e.k0 + j) ∧ e.inp (e.k0 + j) < 256
  nil : e.bi = false → e.L0 = 0
abbrev in6 (e : REnv) (i : Nat) : Int := IntKind.u64.wrap (e.inp (e.k0 + i))
inductive R6 (e : REnv) : RSt → Prop
  | p0 {s} (i : Nat) (a10 a17 : Int) (hi : i ≤ e.L0) (h : EI e 0 i a10 a17 i i s) : R6 e s
  | p4 {s} (i : Nat) (a10 : Int) (hi : i ≤ e.L0) (h : EI e 4 i a10 2 i i s) : R6 e s
  | p8 {s} (i : Nat) (hi : i < e.L0) (h : EI e 8 i (in6 e i) 2 (i + 1) i s) : R6 e s
  | q8 {s} (i : Nat) (hi : i ≤ e.L0) (h : EI e 8 i 18446744073709551615 2 i i s) : R6 e s
  | p12 {s} (i : Nat) (hi : i < e.L0) (h : EI e 12 i (in6 e i) 2 (i + 1) i s) : R6 e s
  | p16 {s} (i : Nat) (hi : i < e.L0) (h : EI e 16 i (in6 e i) 1 (i + 1) i s) : R6 e s
  | p20 {s} (i : Nat) (hi : i < e.L0) (h : EI e 20 i (in6 e i) 1 (i + 1) (i + 1) s) : R6 e s
  | p24 {s} (i : Nat) (hi : i < e.L0) (h : EI e 24 ((i + 1 : Nat) : Int) (in6 e i) 1 (i + 1) (i + 1) s) : R6 e s
  | p28 {s} (i : Nat) (hi : i ≤ e.L0) (h : EI e 28 i 18446744073709551615 2 i i s) : R6 e s
  | p32 {s} (i : Nat) (hi : i ≤ e.L0) (h : EI e 32 i (i : Int) 2 i i s) : R6 e s
  | p36 {s} (i : Nat) (hi : i ≤ e.L0) (h : EI e 36 i (i : Int) 3 i i s) : R6 e s
  | fin {s} (i : Nat) (c : Int) (h : EE e c i s) : R6 e s
section
variable {e : REnv} (hin : In6 e) (hL : e.L0 ≤ 200)
theorem wrap_nat {i : Nat} (h : i ≤ 300) : IntKind.u64.wrap ((i : Int) + 1) = ((i + 1 : Nat) : Int) := by rw [u64_id (by omega) (by omega)]; omega
include hin in
theorem in6_rng {i : Nat} (hi : i < e.L0) : 0 ≤ in6 e i ∧ in6 e i < 256 := by
  have := hin.byte i hi
  unfold in6
  rw [u64_id (by omega) (by omega)]; exact this
include hin hL in
theorem R6.step {s : RSt} (h : R6 e s) (h0 : s.m.st = 0) : ∃ s', stepG noMem e s = (true, s') ∧ R6 e s' := by
  cases h with
  | p0 i a10 a17 hi h => obtain ⟨s', a, b⟩ := s6_0 h; exact ⟨s', a, .p4 i _ hi b⟩
  | p4 i a10 hi h =>
    by_cases hl : i < e.L0
    · have hb : e.bi = true := by
        cases hx : e.bi with
        | true => rfl
        | false => have := hin.nil hx; omega
      obtain ⟨s', a, b⟩ := s6_4a h hb hl
      exact ⟨s', a, .p8 i hl b⟩
    · have hb : (e.bi && Nat.blt i e.L0) = false := by
        have : Nat.blt i e.L0 = false := by rw [blt_dec]; simp; omega
        rw [this, Bool.and_false]
      obtain ⟨s', a, b⟩ := s6_4b h hb
      exact ⟨s', a, .q8 i hi b⟩
  | p8 i hi h =>
    have := in6_rng hin hi
    obtain ⟨s', a, b⟩ := s6_8a h (by omega) (by omega); exact ⟨s', a, .p12 i hi b⟩
  | q8 i hi h => obtain ⟨s', a, b⟩ := s6_8b h; exact ⟨s', a, .p28 i hi b⟩
  | p12 i hi h => obtain ⟨s', a, b⟩ := s6_12 h; exact ⟨s', a, .p16 i hi b⟩
  | p16 i hi h => obtain ⟨s', a, b⟩ := s6_16 h; exact ⟨s', a, .p20 i hi b⟩
  | p20 i hi h =>
    obtain ⟨s', a, b⟩ := s6_20 h
    rw [wrap_nat (by omega)] at b
    exact ⟨s', a, .p24 i hi b⟩
  | p24 i hi h => obtain ⟨s', a, b⟩ := s6_24 h; exact ⟨s', a, .p0 (i + 1) _ _ hi b⟩
  | p28 i hi h =>
    obtain ⟨s', a, b⟩ := s6_28 h
    rw [u64_id (x := (i : Int) + 0) (by omega) (by omega), Int.add_zero] at b
    exact ⟨s', a, .p32 i hi b⟩
  | p32 i hi h => obtain ⟨s', a, b⟩ := s6_32 h; exact ⟨s', a, .p36 i hi b⟩
  | p36 i hi h => obtain ⟨s', a, b⟩ := s6_36 h; exact ⟨s', a, .fin i _ b⟩
  | fin i c h => rw [h.st] at h0; cases h0
theorem noMem_ok {n : Nat} {s : RSt} (h : ¬ (38 ≤ (decA (w32 s.m)).q ∧ (decA (w32 s.m)).q ≤ 44)) : MemOK noMem e n s := by
  intro i k hf _ h1 h2
  rw [hf.is] at h
  exact absurd ⟨h1, h2⟩ h
end
end Go.X
namespace Go.X
open Go Go.Proofs
set_option linter.unusedVariables false
set_option linter.unusedSimpArgs false
def con20b : Con Try.prog where
  f := 20
  run := fun vs _ n => match vs with
    | [.int .u32 w] => some ([], (decA w).v, [(n, some (decA w).b)], 1, decB w)
    | _ => none
  ok := fun vs h n pre v upd news hx => by
    split at hx
    · rename_i w
      simp only [Option.some.injEq, Prod.mk.injEq] at hx
      obtain ⟨rfl, rfl, rfl, rfl, hu⟩ := hx
      exact ⟨fun id hid => by simp [fstL] at hid, c20 w (decU_of hu) n⟩
    · cases hx
abbrev sc21 : Short := scOf [con20b]
theorem FOK21 : FnsOK Try.prog (lookF FL) sc21 := fok FOK _
theorem p21 : execC (lookF FL) sc21 100000 x21 (argTm 0 []) [] 100 (valK [0]) = some [.bool true] := by kernel_rfl
end Go.X
namespace Go.X
open Go Go.Proofs
set_option linter.unusedVariables false
set_option linter.unusedSimpArgs false
def c21g : List Value → Option Value
  | [] => some (.bool true)
  | _ => none
def con21 : Con Try.prog := pureC 21 c21g fun vs v n h => by
  unfold c21g at h
  split at h
  · cases h; exact adet_tree FOK21 100000 fx21 (by simp) [0] p21 rfl rfl rfl rfl n
  · cases h
abbrev sc6 : Short := scOf [con21]
theorem FOK6 : FnsOK Try.prog (lookF FL) sc6 := fok FOK _
def exI (bi : Bool) (b : Blk) : List (Nat × Blk) := bif bi then [(40, b)] else []
end Go.X
namespace Go.X
open Go Go.Proofs
set_option linter.unusedVariables false
set_option linter.unusedSimpArgs false
attribute [local congr] cond_ctx
section
variable (bi : Bool) (k L C T : Nat) (inp : Nat → Int)
end
end Go.X
namespace Go.X
open Go Go.Proofs
set_option linter.unusedVariables false
set_option linter.unusedSimpArgs false
section
variable (bi : Bool) (k L C T : Nat) (inp : Nat → Int)
end
end Go.X
namespace Go.X
open Go Go.Proofs
set_option linter.unusedVariables false
set_option linter.unusedSimpArgs false
def Ins.v (i : Ins) : Value := i18 i.op i.rd i.rs1 i.rs2 i.imm
def encV (p : Int × Int) : Value := .tuple ⟨[.int .u32 p.1, .int .i64 p.2]⟩
def EncV (i : Ins) (p : Int × Int) : Prop := ∀ n, ADet Try.prog 47 [i.v] [] (encV p) [] n 0
noncomputable def con47 (E : Ins → Int × Int) : Con Try.prog where
  f := 47
  run := fun vs h n => match vs with
    | [.agg ⟨[.int .i64 a, .int .i64 b, .int .i64 c, .int .i64 d, .int .i64 e]⟩] => some ([], encV (E ⟨a, b, c, d, e⟩), [], 0, decP (EncV ⟨a, b, c, d, e⟩ (E ⟨a, b, c, d, e⟩)))
    | _ => none
  ok := fun vs h n pre v upd news hx => by
    split at hx
    · rename_i a b c d e
      simp only [Option.some.injEq, Prod.mk.injEq] at hx
      obtain ⟨rfl, rfl, rfl, rfl, hA⟩ := hx
      exact ⟨fun id hid => by simp [fstL] at hid, of_decP hA n⟩
    · cases hx
theorem encV_of {i : Ins} {p : Int × Int} (h : execC (lookF FL) noSc 100000 x47 (argTm 0 [i.v]) [] 100 (valK [2, 3]) = some [.int .u32 p.1, .int .i64 p.2]) : EncV i p :=
  fun n => adet_tree FOK 100000 fx47 (by simp) [2, 3] h rfl rfl rfl rfl n
def itB (T : Nat) (J : Nat → Ins) : Blk := .rows T 5 (fun j => (J j).row) false true
noncomputable abbrev sc23 (E : Ins → Int × Int) : Short := scOf [con47 E]
end Go.X
namespace Go.X
open Go Go.Proofs
set_option linter.unusedVariables false
set_option linter.unusedSimpArgs false
abbrev L41 (N C : Nat) : Value := .slice (some ⟨41, 0, none⟩) N C
def w4 (w : Int) : Nat → List Value := fun j => slab [.int .u8 (IntKind.u8.wrap w), .int .u8 (IntKind.u8.wrap (w.fdiv 256)), .int .u8 (IntKind.u8.wrap (w.fdiv 65536)), .int .u8 (IntKind.u8.wrap (w.fdiv 16777216))] ((0 + j) * 1) 1
theorem p23_a (N C T : Nat) (J : Nat → Ins) : walk (lookF FL) noSc 1000 x23 (argTm 0 [L41 N C]) (mkH [(41, itB T J)]) 100 ⟨[], [], [], []⟩ ⟨[], [], [], []⟩ ⟨[10, 3, 9, 8], [], [], [41]⟩ =
    some ⟨⟨[some (true, .int .i64 0), some (true, .slice none 0 0), some (true, .int .i64 (N : Int)), some (true, L41 N C)], [], .normal, 100⟩, some (x23_17, [.bl 0, .sq x23_22])⟩ := by kernel_rfl
section
variable (E : Ins → Int × Int) (N C T i : Nat) (J : Nat → Ins) (oN : Nat) (of : Nat → Int)
theorem p23_n : walk (lookF FL) (sc23 E) 1000 x23_17 (mkT [10, 3, 9, 8] [.int .i64 (i : Int), .slice none 0 0, .int .i64 (N : Int), L41 N C]) (mkH [(41, itB T J)]) 102 ⟨[10, 3], [.tmp 3], [9, 8], [41]⟩ ⟨[], [], [], []⟩ ⟨[], [], [], []⟩ =
    bif decide ((i : Int) < N) then bif (Nat.blt (0 + i) T && true || false) && ((intRange i N && true || false) && true) then bif (decP (EncV (J (0 + i)) (E (J (0 + i)))) || false) && true then bif (E (J (0 + i))).2 == 0 then
      some ⟨⟨[some (true, .int .i64 (IntKind.i64.wrap ((i : Int) + 1))), some (true, newS 104 4)], [(104, some (.rows 4 1 (rowCat (fun _ => []) 0 0 (w4 (E (J (0 + i))).1)) true false))], .normal, 105⟩, none⟩ else none else none else none else none := by kernel_rfl
theorem p23_m : walk (lookF FL) (sc23 E) 1000 x23_17 (mkT [10, 3, 9, 8] [.int .i64 (i : Int), .slice none 0 0, .int .i64 (N : Int), L41 N C]) (mkH [(41, itB T J)]) 102 ⟨[10, 3], [], [9, 8], [41]⟩ ⟨[], [], [], []⟩ ⟨[], [], [], []⟩ =
    bif decide ((i : Int) < N) then bif (Nat.blt (0 + i) T && true || false) && ((intRange i N && true || false) && true) then bif (decP (EncV (J (0 + i)) (E (J (0 + i)))) || false) && true then bif (E (J (0 + i))).2 == 0 then
      some ⟨⟨[some (true, .int .i64 (IntKind.i64.wrap ((i : Int) + 1))), some (true, newS 104 4)], [], .normal, 105⟩, none⟩
      else some ⟨⟨[some (true, .int .i64 (IntKind.i64.wrap ((i : Int) + 1))), some (true, .slice none 0 0)], [], .normal, 103⟩, none⟩ else none else none
      else some ⟨⟨[some (true, .int .i64 (i : Int)), some (true, .slice none 0 0)], [], .exit 0, 102⟩, none⟩ := by kernel_rfl
theorem p23_b : walk (lookF FL) (sc23 E) 1000 x23_17 (mkT [10, 3, 9, 8] [.int .i64 (i : Int), newS 101 oN, .int .i64 (N : Int), L41 N C]) (mkH [(101, outB oN of), (41, itB T J)]) 102 ⟨[10, 3], [.tmp 3], [9, 8], [41]⟩ ⟨[], [], [], []⟩ ⟨[], [], [], []⟩ =
    bif decide ((i : Int) < N) then bif (Nat.blt (0 + i) T && true || false) && ((intRange i N && true || false) && true) then bif (decP (EncV (J (0 + i)) (E (J (0 + i)))) || false) && true then bif (E (J (0 + i))).2 == 0 then
      bif !(oN + 4).ble oN && true && (oN.ble oN && (0 + oN).ble oN) && true && decide ((oN + 4) * 3 ≤ 1099511627776) && true && true then
      some ⟨⟨[some (true, .int .i64 (IntKind.i64.wrap ((i : Int) + 1))), some (true, newS 104 (oN + 4))], [(104, some (.rows (oN + 4) 1 (rowCat (fun j => [.int .u8 (of j)]) 0 oN (w4 (E (J (0 + i))).1)) true false))], .normal, 105⟩, none⟩ else none
      else some ⟨⟨[some (true, .int .i64 (IntKind.i64.wrap ((i : Int) + 1))), some (true, newS 101 oN)], [(101, some (outB oN of))], .normal, 103⟩, none⟩ else none else none
      else some ⟨⟨[some (true, .int .i64 (i : Int)), some (true, newS 101 oN)], [(101, some (outB oN of))], .exit 0, 102⟩, none⟩ := by kernel_rfl
end
def byteOf (w : Int) : Nat → Int
  | 0 => IntKind.u8.wrap w
  | 1 => IntKind.u8.wrap (w.fdiv 256)
  | 2 => IntKind.u8.wrap (w.fdiv 65536)
  | _ => IntKind.u8.wrap (w.fdiv 16777216)
theorem w4_eq (w : Int) : ∀ j, j < 4 → w4 w j = [.int .u8 (byteOf w j)]
  | 0, _ => rfl
  | 1, _ => rfl
  | 2, _ => rfl
  | 3, _ => rfl
  | j + 4, h => by omega
def add4 (of : Nat → Int) (n : Nat) (w : Int) : Nat → Int := fun j => bif Nat.blt j n then of j else byteOf w (j - n)
def byS (E : Ins → Int × Int) (J : Nat → Ins) : Nat → Nat × (Nat → Int)
  | 0 => (0, fun _ => 0)
  | i + 1 => bif (E (J i)).2 == 0 then ((byS E J i).1 + 4, add4 (byS E J i).2 (byS E J i).1 (E (J i)).1) else byS E J i
theorem byS_le (E : Ins → Int × Int) (J : Nat → Ins) : ∀ i, (byS E J i).1 ≤ 4 * i
  | 0 => Nat.le_refl _
  | i + 1 => by
    have := byS_le E J i
    rw [byS]
    cases (E (J i)).2 == 0 <;> simp only [cond_true, cond_false] <;> omega
def ext23 (bo : Bool) (b : Blk) : List (Nat × Blk) := bif bo then [(101, b)] else []
def S23 (N C T : Nat) (J : Nat → Ins) (p : Nat × (Nat → Int)) (i : Nat) : St := ⟨mkT [10, 3, 9, 8] [.int .i64 (i : Int), vO (bO p.1) p.1, .int .i64 (N : Int), L41 N C], mkH (ext23 (bO p.1) (outB p.1 p.2) ++ [(41, itB T J)]), 102⟩
theorem bis_itB {P : Program} {σ : Nm} {T : Nat} {J : Nat → Ins} : BIs P σ (itB T J) (itB T J) := ⟨rfl, rfl, fun _ _ => rfl, .inr (.inl rfl), .inl rfl⟩
theorem bis_add {P : Program} {σ : Nm} {n : Nat} {of : Nat → Int} {w : Int} {f : Nat → List Value} (hf : ∀ j, j < n → f j = [.int .u8 (of j)]) : BIs P σ (outB (n + 4) (add4 of n w)) (.rows (n + 4) 1 (rowCat f 0 n (w4 w)) true false) := by
  refine ⟨rfl, rfl, fun j hj => ?_, .inl rfl, .inr rfl⟩
  show _ = cond (Nat.blt j n) (f (0 + j)) (w4 w (j - n))
  by_cases h : j < n
  · rw [lt_blt h, cond_true, Nat.zero_add, hf j h]
    show [Value.int .u8 (add4 of n w j)] = _
    unfold add4; rw [lt_blt h]; rfl
  · have hb : Nat.blt j n = false := by rw [blt_dec]; simp; omega
    rw [hb, cond_false, w4_eq w _ (by omega)]
    show [Value.int .u8 (add4 of n w j)] = _
    unfold add4; rw [hb]; rfl
theorem leaf23n {E : FEnv} (hP : E.P = Try.prog) (hn : E.B.n = 100) {N C T i : Nat} {J : Nat → Ins} {i' : Nat} (of : Nat → Int) (w : Int) (k : Int) (hk : k = (i' : Int)) :
    LeafTo E ([10, 3] ++ [9, 8]) (ext ⟨[10, 3], [.tmp 3], [9, 8], [41]⟩ (mkT [10, 3, 9, 8] [.int .i64 (i : Int), .slice none 0 0, .int .i64 (N : Int), L41 N C]) (mkH [(41, itB T J)])
      ⟨[some (true, .int .i64 k), some (true, newS 104 4)], [(104, some (.rows 4 1 (rowCat (fun _ => []) 0 0 (w4 w)) true false))], .normal, 105⟩)
      (S23 N C T J (4, add4 of 0 w) i') := by
  subst hk
  refine ⟨_, _, _, rfl, ?_, ?_, ?_⟩ <;> rw [hn]
  · rfl
  · exact ⟨rfl, rfl, rfl, rfl, trivial⟩
  · rw [hP]
    exact ⟨bis_add (n := 0) (of := of) fun j hj => absurd hj (Nat.not_lt_zero _), bis_itB, trivial⟩
theorem leaf23m {E : FEnv} (hP : E.P = Try.prog) (hn : E.B.n = 100) {N C T i : Nat} {J : Nat → Ins} {i' : Nat} (k : Int) (hk : k = (i' : Int)) (of : Nat → Int) (ex : Exit) (n : Nat) (h102 : 102 ≤ n) (hex : ex ≠ .ret):
    LeafTo E ([10, 3] ++ [9, 8]) (ext ⟨[10, 3], [], [9, 8], [41]⟩ (mkT [10, 3, 9, 8] [.int .i64 (i : Int), .slice none 0 0, .int .i64 (N : Int), L41 N C]) (mkH [(41, itB T J)])
      ⟨[some (true, .int .i64 k), some (true, .slice none 0 0)], [], ex, n⟩)
      (S23 N C T J (0, of) i') := by
  subst hk
  refine ⟨_, _, _, rfl, ?_, ?_, ?_⟩ <;> rw [hn]
  · rfl
  · exact ⟨rfl, rfl, rfl, rfl, trivial⟩
  · rw [hP]
    exact ⟨bis_itB, trivial⟩
theorem leaf23b {E : FEnv} (hP : E.P = Try.prog) (hn : E.B.n = 100) {N C T i oN : Nat} {of : Nat → Int} {J : Nat → Ins} {i' : Nat} (w : Int) (k : Int) (hk : k = (i' : Int)) :
    LeafTo E ([10, 3] ++ [9, 8]) (ext ⟨[10, 3], [.tmp 3], [9, 8], [41]⟩ (mkT [10, 3, 9, 8] [.int .i64 (i : Int), newS 101 oN, .int .i64 (N : Int), L41 N C]) (mkH [(101, outB oN of), (41, itB T J)])
      ⟨[some (true, .int .i64 k), some (true, newS 104 (oN + 4))], [(104, some (.rows (oN + 4) 1 (rowCat (fun j => [.int .u8 (of j)]) 0 oN (w4 w)) true false))], .normal, 105⟩)
      (S23 N C T J (oN + 4, add4 of oN w) i') := by
  subst hk
  refine ⟨_, _, _, rfl, ?_, ?_, ?_⟩ <;> rw [hn]
  · rfl
  · exact ⟨rfl, rfl, rfl, rfl, trivial⟩
  · rw [hP]
    exact ⟨bis_add fun j hj => rfl, bis_itB, trivial⟩
theorem leaf23o {E : FEnv} (hP : E.P = Try.prog) (hn : E.B.n = 100) {N C T i oN : Nat} {of : Nat → Int} {J : Nat → Ins} {i' : Nat} (hbo : bO oN = true) (k : Int) (hk : k = (i' : Int)) (ex : Exit) (n : Nat) :
    LeafTo E ([10, 3] ++ [9, 8]) (ext ⟨[10, 3], [.tmp 3], [9, 8], [41]⟩ (mkT [10, 3, 9, 8] [.int .i64 (i : Int), newS 101 oN, .int .i64 (N : Int), L41 N C]) (mkH [(101, outB oN of), (41, itB T J)])
      ⟨[some (true, .int .i64 k), some (true, newS 101 oN)], [(101, some (outB oN of))], ex, n⟩)
      (S23 N C T J (oN, of) i') := by
  subst hk
  unfold S23
  rw [hbo]
  refine ⟨_, _, _, rfl, ?_, ?_, ?_⟩ <;> rw [hn]
  · rfl
  · exact ⟨rfl, rfl, rfl, rfl, trivial⟩
  · rw [hP]
    exact ⟨bis_outB, bis_itB, trivial⟩
end Go.X
namespace Go.X
open Go Go.Proofs
set_option linter.unusedVariables false
set_option linter.unusedSimpArgs false
theorem bO_false {n : Nat} (h : bO n = false) : n = 0 := by
  cases n with
  | zero => rfl
  | succ n => cases h
theorem loop23 {E : FEnv} {Q : Post} (hcl : Cl E.toEnv Q) (hP : E.P = Try.prog) (hn : E.B.n = 100) {N C T : Nat} {J : Nat → Ins} {F : Ins → Int × Int} (hE : ∀ j, j < N → EncV (J j) (F (J j))) (hT : N ≤ T) (hN : N ≤ 10000000000)
    (hQ : Q (.exit 0) (S23 N C T J (byS F J N) N)) : XWP E.toEnv (.loop x23_17) Q (S23 N C T J (byS F J 0) 0) := by
  refine xwp_loopR (ι := Nat) (fun i => S23 N C T J (byS F J i) i) (fun i => i ≤ N) (fun i => N - i) 0 (Nat.zero_le _) fun i hi => ?_
  have hcr := cl_round (S := fun i => S23 N C T J (byS F J i) i) (I := fun i => i ≤ N) (μ := fun i => N - i) (i := i) hcl
  have FO : FnsOK E.P (lookF FL) (sc23 F) := hP ▸ fok FOK _
  have hle := byS_le F J i
  obtain ⟨oN, of, hb⟩ : ∃ oN of, byS F J i = (oN, of) := ⟨_, _, rfl⟩
  have hnx : byS F J (i + 1) = bif (F (J i)).2 == 0 then (oN + 4, add4 of oN (F (J i)).1) else (oN, of) := by rw [byS, hb]
  rw [hb] at hle
  simp only at hle
  have g1 : i < N → ((Nat.blt (0 + i) T && true || false) && ((intRange i N && true || false) && true)) = true := fun h => by
    rw [Nat.zero_add, lt_blt (show i < T by omega)]
    simp [intRange]; omega
  have g2 : i < N → ((decP (EncV (J (0 + i)) (F (J (0 + i)))) || false) && true) = true := fun h => by
    rw [Nat.zero_add, decP_true (hE i h)]; rfl
  have hw : i < N → IntKind.i64.wrap ((i : Int) + 1) = ((i + 1 : Nat) : Int) := fun h => by rw [wrap_i (by omega) (by omega)]; omega
  have next : ∀ {p : Nat × (Nat → Int)}, i < N → p = byS F J (i + 1) → roundP E.toEnv (fun i => S23 N C T J (byS F J i) i) (fun i => i ≤ N) (fun i => N - i) i Q .normal (S23 N C T J p (i + 1)) := fun h hp => by
    subst hp
    exact ⟨i + 1, h, by simp only; omega, Wk.refl _ _⟩
  simp only [hb]
  cases hbo : bO oN with
  | false =>
    have h0 := bO_false hbo
    subst h0
    show XWP E.toEnv x23_17 _ ⟨mkT [10, 3, 9, 8] [.int .i64 (i : Int), .slice none 0 0, .int .i64 (N : Int), L41 N C], mkH [(41, itB T J)], 102⟩
    by_cases hlt : i < N
    · cases hz : (F (J i)).2 == 0 with
      | true =>
        have e := p23_n F N C T i J
        rw [decide_eq_true (show (i : Int) < N by omega), g1 hlt, g2 hlt, Nat.zero_add, hz] at e
        simp only [cond_true] at e
        rw [hw hlt] at e
        refine xwp_toEnd (s := ⟨_, _, _⟩) hcr FO 1000 e _ (leaf23n hP hn of _ _ rfl) (next hlt ?_)
        rw [hnx, hz]
        rfl
      | false =>
        have e := p23_m F N C T i J
        rw [decide_eq_true (show (i : Int) < N by omega), g1 hlt, g2 hlt, Nat.zero_add, hz] at e
        simp only [cond_true, cond_false] at e
        rw [hw hlt] at e
        refine xwp_toEnd (s := ⟨_, _, _⟩) hcr FO 1000 e _ (leaf23m hP hn _ rfl of _ _ (by omega) (by simp)) (next hlt ?_)
        rw [hnx, hz]; rfl
    · have e := p23_m F N C T i J
      rw [decide_eq_false (show ¬ (i : Int) < N by omega)] at e
      simp only [cond_false] at e
      have : i = N := by omega
      subst this
      refine xwp_toEnd (s := ⟨_, _, _⟩) hcr FO 1000 e _ (leaf23m hP hn _ rfl of _ _ (by omega) (by simp)) ?_
      rw [hb] at hQ; exact hQ
  | true =>
    show XWP E.toEnv x23_17 _ (S23 N C T J (oN, of) i)
    unfold S23
    rw [hbo]
    show XWP E.toEnv x23_17 _ ⟨mkT [10, 3, 9, 8] [.int .i64 (i : Int), newS 101 oN, .int .i64 (N : Int), L41 N C], mkH [(101, outB oN of), (41, itB T J)], 102⟩
    have e := p23_b F N C T i J oN of
    by_cases hlt : i < N
    · have g3 : (!(oN + 4).ble oN && true && (oN.ble oN && (0 + oN).ble oN) && true && decide ((oN + 4) * 3 ≤ 1099511627776) && true && true) = true := by
        rw [Nat.zero_add, show (oN + 4).ble oN = false by rw [ble_dec]; simp, show oN.ble oN = true by simp, decide_eq_true (by omega)]; rfl
      rw [decide_eq_true (show (i : Int) < N by omega), g1 hlt, g2 hlt, Nat.zero_add, g3] at e
      simp only [cond_true] at e
      rw [hw hlt] at e
      cases hz : (F (J i)).2 == 0 with
      | true =>
        rw [hz] at e
        refine xwp_toEnd (s := ⟨_, _, _⟩) hcr FO 1000 e _ (leaf23b hP hn _ _ rfl) (next hlt ?_)
        rw [hnx, hz]; rfl
      | false =>
        rw [hz] at e
        refine xwp_toEnd (s := ⟨_, _, _⟩) hcr FO 1000 e _ (leaf23o hP hn hbo _ rfl _ _) (next hlt ?_)
        rw [hnx, hz]; rfl
    · rw [decide_eq_false (show ¬ (i : Int) < N by omega)] at e
      simp only [cond_false] at e
      have : i = N := by omega
      subst this
      refine xwp_toEnd (s := ⟨_, _, _⟩) hcr FO 1000 e _ (leaf23o hP hn hbo _ rfl _ _) ?_
      rw [hb] at hQ; exact hQ
end Go.X
namespace Go.X
open Go Go.Proofs
set_option linter.unusedVariables false
set_option linter.unusedSimpArgs false
def vB (a : Nat) (bo : Bool) (n : Nat) : Value := bif bo then newS a n else .slice none 0 0
def upB (a : Nat) (bo : Bool) (b : Blk) : List (Nat × Blk) := bif bo then [(a, b)] else []
def nB (bo : Bool) : Nat := bif bo then 1 else 0
theorem p23_e (N C T : Nat) (J : Nat → Ins) (i : Nat) (bo : Bool) (oN : Nat) (of : Nat → Int) : walk (lookF FL) noSc 1000 x23_22 (mkT [10, 3, 9, 8] [.int .i64 (i : Int), vO bo oN, .int .i64 (N : Int), L41 N C]) (mkH (ext23 bo (outB oN of) ++ [(41, itB T J)])) 102 ⟨[], [], [], []⟩ ⟨[2], bif bo then [.id 101] else [], [], [41]⟩ ⟨[], [], [], []⟩ =
    some ⟨⟨[some (true, vO bo oN)], bif bo then [(101, some (outB oN of))] else [], .ret, 102⟩, none⟩ := by cases bo <;> kernel_rfl
theorem b23 {N C T : Nat} {J : Nat → Ins} {F : Ins → Int × Int} (hE : ∀ j, j < N → EncV (J j) (F (J j))) (hT : N ≤ T) (hN : N ≤ 10000000000) {oN : Nat} {of : Nat → Int} (hb : byS F J N = (oN, of)) :
    Body Try.prog 23 [L41 N C] (mkH [(41, itB T J)]) (vB 100 (bO oN) oN) (mkH (upB 100 (bO oN) (outB oN of))) 100 (nB (bO oN)) := by
  refine body_of mixed fx23 (by simp) fun ρ w hd => ?_
  let E := envOf Try.prog 37 100 (mkH [(41, itB T J)]) mixed ρ w hd
  refine xwp_toLoop (E := E) (s := ⟨argTm 0 [L41 N C], mkH [(41, itB T J)], 100⟩) FOK 1000 (p23_a N C T J) (S23 N C T J (byS F J 0) 0) ⟨_, _, _, rfl, rfl, ⟨rfl, rfl, rfl, rfl, trivial⟩, bis_itB, trivial⟩ ?_
  refine loop23 (E := E) (cl_ctx cl_fin _) rfl rfl hE hT hN ?_
  rw [hb]
  show XWP E.toEnv x23_22 _ (S23 N C T J (oN, of) N)
  have e := p23_e N C T J N (bO oN) oN of
  refine xwp_toEnd (E := E) (s := ⟨_, _, _⟩) cl_fin FOK 1000 e ⟨mkT [2] [vB 100 (bO oN) oN], mkH (upB 100 (bO oN) (outB oN of) ++ [(41, itB T J)]), 100 + nB (bO oN)⟩ ⟨_, _, _, rfl, ?_, ?_, ?_⟩ (fin_of rfl ?_ rfl ?_)
  · cases bO oN <;> rfl
  · cases bO oN <;> exact ⟨rfl, trivial⟩
  · cases bO oN
    · exact ⟨bis_itB, trivial⟩
    · exact ⟨bis_outB, bis_itB, trivial⟩
  · cases bO oN
    · exact ⟨rfl, trivial⟩
    · exact ⟨rfl, rfl, trivial⟩
  · cases bO oN <;> rfl
abbrev L60 (N C : Nat) : Value := .slice (some ⟨60, 0, none⟩) N C
end Go.X
namespace Go.X
open Go Go.Proofs
set_option linter.unusedVariables false
set_option linter.unusedSimpArgs false
def newM (k L : Nat) (inp : Nat → Int) (sz : Nat) : MS := ⟨sz, fun j => bif Nat.blt j L then inp (k + j) else 0, fun _ => 0, 0, 0, 0, ⟨0, fun _ => false⟩⟩
def MS.mAt (m : MS) (a b : Nat) : Blk := .var ([.slice (some ⟨a, 0, none⟩) m.sz m.sz] ++ regs m.x ++ [.int .u64 m.pl, .int .i64 m.st, .int .u8 m.cd, .map (some b)])
def exJ' (bi : Bool) : List Nat := bif bi then [40] else []
def mem22 (bi : Bool) (k L : Nat) (inp : Nat → Int) (sz : Nat) : Blk := .rows sz 1 (rowPut (fun _ => [.int .u8 0]) 0 (min (bif bi then L else 0) sz) (fun j => bif bi then [.int .u8 (inp (k + j))] else [])) false false
def old22 : Blk := .map 35 26 0 (fun _ => false) (fun _ => i18 0 0 0 0 0)
theorem p22 (bi : Bool) (k L C T : Nat) (sz : Nat) (inp : Nat → Int) (hL : bi = false → L = 0) (h1 : L ≤ sz) (h2 : sz ≤ 4194304) (hT : bi = true → k + L ≤ T) :
    walk (lookF FL) noSc 1000 x22 (argTm 0 [vI bi k L C, .int .i64 (sz : Int)]) (mkH (exI bi (inB T inp))) 100 ⟨[], [], [], []⟩ ⟨[4, 5], [.id 100, .id 101, .id 102], [], exJ' bi⟩ ⟨[], [], [], []⟩ =
      some ⟨⟨[some (true, .pointer (some ⟨102, 0, some 0⟩)), some (true, .int .i64 0)], [(100, some (mem22 bi k L inp sz)), (101, some old22), (102, some ((newM k L inp sz).mAt 100 101))], .ret, 103⟩, none⟩ := by
  cases bi with
  | false =>
    have hL0 := hL rfl
    subst hL0
    have e : walk (lookF FL) noSc 1000 x22 (argTm 0 [vI false k 0 C, .int .i64 (sz : Int)]) (mkH (exI false (inB T inp))) 100 ⟨[], [], [], []⟩ ⟨[4, 5], [.id 100, .id 101, .id 102], [], exJ' false⟩ ⟨[], [], [], []⟩ =
      bif bif decide ((sz : Int) < 0) then true else decide ((sz : Int) > 4194304) then some ⟨⟨[some (true, .pointer none), some (true, .int .i64 1)], [(100, none), (101, none), (102, none)], .ret, 100⟩, none⟩
        else bif decide (0 ≤ (sz : Int)) && decide ((sz : Int) ≤ (sz : Int)) && decide ((sz : Int) * 3 ≤ 1099511627776) && true && true then bif (0 + sz).ble sz && true && true then
          some ⟨⟨[some (true, .pointer (some ⟨102, 0, some 0⟩)), some (true, .int .i64 0)], [(100, some (mem22 false k 0 inp sz)), (101, some old22), (102, some ((newM k 0 inp sz).mAt 100 101))], .ret, 103⟩, none⟩ else none else none := by kernel_rfl
    rw [e]
    simp only [decide_eq_false (show ¬ (sz : Int) < 0 by omega), decide_eq_false (show ¬ (sz : Int) > 4194304 by omega), decide_eq_true (show 0 ≤ (sz : Int) by omega), decide_eq_true (Int.le_refl (sz : Int)), decide_eq_true (show (sz : Int) * 3 ≤ 1099511627776 by omega), Nat.zero_add, show sz.ble sz = true by simp]
    rfl
  | true =>
    have e : walk (lookF FL) noSc 1000 x22 (argTm 0 [vI true k L C, .int .i64 (sz : Int)]) (mkH (exI true (inB T inp))) 100 ⟨[], [], [], []⟩ ⟨[4, 5], [.id 100, .id 101, .id 102], [], exJ' true⟩ ⟨[], [], [], []⟩ =
      bif ((!decide ((sz : Int) < (L : Int)) || decide ((sz : Int) < (L : Int))) && true || false) && ((!decide ((sz : Int) < (L : Int)) && true || !!decide ((sz : Int) < (L : Int))) && true) then bif bif decide ((sz : Int) < (L : Int)) then true else decide ((sz : Int) > 4194304) then some ⟨⟨[some (true, .pointer none), some (true, .int .i64 1)], [(100, none), (101, none), (102, none)], .ret, 100⟩, none⟩
        else bif decide (0 ≤ (sz : Int)) && decide ((sz : Int) ≤ (sz : Int)) && decide ((sz : Int) * 3 ≤ 1099511627776) && true && true then bif (k + L).ble T && true && (0 + sz).ble sz && true && true then
          some ⟨⟨[some (true, .pointer (some ⟨102, 0, some 0⟩)), some (true, .int .i64 0)], [(100, some (mem22 true k L inp sz)), (101, some old22), (102, some ((newM k L inp sz).mAt 100 101))], .ret, 103⟩, none⟩ else none else none else none := by kernel_rfl
    rw [e]
    simp only [decide_eq_false (show ¬ (sz : Int) < (L : Int) by omega), decide_eq_false (show ¬ (sz : Int) > 4194304 by omega), decide_eq_true (show 0 ≤ (sz : Int) by omega), decide_eq_true (Int.le_refl (sz : Int)), decide_eq_true (show (sz : Int) * 3 ≤ 1099511627776 by omega), Nat.zero_add, show sz.ble sz = true by simp, show (k + L).ble T = true by rw [ble_dec]; simp; exact hT rfl]
    rfl
theorem bis_mem22 {P : Program} {σ : Nm} {bi : Bool} {k L : Nat} {inp : Nat → Int} {sz : Nat} (hL : bi = false → L = 0) (h1 : L ≤ sz) : BIs P σ (newM k L inp sz).memB (mem22 bi k L inp sz) := by
  refine ⟨rfl, rfl, fun j hj => ?_, by first | exact .inl rfl | exact .inr rfl | exact .inr (.inl rfl), by first | exact .inl rfl | exact .inr rfl⟩
  show rnL _ [.int .u8 (bif Nat.blt j L then inp (k + j) else 0)] = cond (Nat.ble 0 j && Nat.blt j (0 + min (bif bi then L else 0) sz)) (bif bi then [.int .u8 (inp (k + (j - 0)))] else []) [.int .u8 0]
  have h0 : Nat.ble 0 j = true := by simp
  rw [h0, Bool.true_and, Nat.zero_add, Nat.sub_zero]
  cases bi with
  | false =>
    have := hL rfl
    subst this
    have : Nat.blt j 0 = false := by rw [blt_dec]; simp
    rw [this, cond_false, cond_false]; simp only [Nat.zero_min, this, cond_false]; rfl
  | true =>
    rw [cond_true, Nat.min_eq_left h1, cond_true]
    cases Nat.blt j L <;> rfl
theorem bis_old {P : Program} {σ : Nm} {k L : Nat} {inp : Nat → Int} {sz : Nat} : BIs P σ (newM k L inp sz).kn.blk old22 := ⟨rfl, rfl, rfl, fun d q _ _ => ⟨rfl, rfl⟩⟩
theorem bis_mAt {P : Program} {σ : Nm} {m : MS} {a b a' b' : Nat} (ha : σ a = some a') (hb : σ b = some b') : BIs P σ (m.mAt a b) (m.mAt a' b') := by
  show ren σ 4 (.slice (some ⟨a, 0, none⟩) m.sz m.sz) :: (rnL σ (regs m.x ++ [.int .u64 m.pl, .int .i64 m.st, .int .u8 m.cd]) ++ [ren σ 4 (.map (some b))]) = _
  simp only [ren, renP, ha, hb]
  rfl
def upd22 (m : MS) : Hp := mkH [(100, m.memB), (101, m.kn.blk), (102, m.mAt 100 101)]
theorem b22 {bi : Bool} {k L C T sz : Nat} {inp : Nat → Int} (hL : bi = false → L = 0) (h1 : L ≤ sz) (h2 : sz ≤ 4194304) (hT : bi = true → k + L ≤ T) :
    Body Try.prog 22 [vI bi k L C, .int .i64 (sz : Int)] (mkH (exI bi (inB T inp))) (.tuple ⟨[.pointer (some ⟨102, 0, some 0⟩), .int .i64 0]⟩) (upd22 (newM k L inp sz)) 100 3 := by
  have e := p22 bi k L C T sz inp hL h1 h2 hT
  refine body_walk FOK fx22 (by simp) e rfl ⟨mkT [4, 5] [.pointer (some ⟨102, 0, some 0⟩), .int .i64 0], upd22 (newM k L inp sz) ++ mkH (exI bi (inB T inp)), 103⟩ (fun ρ w hd => ⟨[.pointer (some ⟨102, 0, some 0⟩), .int .i64 0], (100, (newM k L inp sz).memB) :: (101, (newM k L inp sz).kn.blk) :: (102, (newM k L inp sz).mAt 100 101) :: exI bi (inB T inp), 103, ?_, ?_, ?_, ?_⟩) ?_ rfl ?_
  · cases bi <;> rfl
  · cases bi <;> rfl
  · cases bi <;> exact ⟨rfl, rfl, trivial⟩
  · cases bi
    · exact ⟨bis_mem22 hL h1, bis_old, bis_mAt rfl rfl, trivial⟩
    · exact ⟨bis_mem22 hL h1, bis_old, bis_mAt rfl rfl, bis_inB, trivial⟩
  · cases bi
    · exact ⟨rfl, rfl, rfl, trivial⟩
    · exact ⟨rfl, rfl, rfl, rfl, trivial⟩
  · cases bi <;> rfl
end Go.X
namespace Go.X
open Go Go.Proofs
set_option linter.unusedVariables false
set_option linter.unusedSimpArgs false
section
variable (n o : Int) (i N : Nat) (f : Nat → List Value)
end
end Go.X
namespace Go.X
open Go Go.Proofs
set_option linter.unusedVariables false
set_option linter.unusedSimpArgs false
def word7 (r : Int) (q : Nat) : Int := bif q % 2 == 0 then 1048595 else 2097171 + 128 * r
structure R7 (N : Nat) (r : Int) (q : Nat) (s : RSt) : Prop where
  sz : s.m.sz = 4 * N + 8
  mem : ∀ i t, i < N → t < 4 → s.m.mem (4 * i + t) = byteOf (word7 r i) t
  pl : s.m.pl = 4 * (q : Int)
  st : s.m.st = 0
  x0 : s.m.x 0 = 0
  mark : s.mark = ((q + 1) / 2 : Nat)
  fo : s.oN = 0
def e7 : REnv := ⟨false, 0, fun _ => 0, 0, 0, 0, false⟩
section
variable {N : Nat} {r : Int} (hN : N ≤ 510) (h0 : 0 ≤ r) (h1 : r < 32)
end
end Go.X
namespace Go.X
open Go Go.Proofs
set_option linter.unusedVariables false
set_option linter.unusedSimpArgs false
def vM3 (a : Nat) : Value := .tuple ⟨[.pointer (some ⟨a, 0, some 0⟩), .int .i64 0]⟩
end Go.X
namespace Go.X
open Go Go.Proofs
set_option linter.unusedVariables false
set_option linter.unusedSimpArgs false
end Go.X
namespace Go.X
open Go Go.Proofs
set_option linter.unusedVariables false
set_option linter.unusedSimpArgs false
def encK (i : Ins) (p : Int × Int) : Bool := match execC (lookF FL) noSc 100000 x47 (argTm 0 [i.v]) [] 100 (valK [2, 3]) with
  | some [.int .u32 a, .int .i64 b] => a == p.1 && b == p.2
  | _ => false
theorem encK_of {i : Ins} {p : Int × Int} (h : encK i p = true) : EncV i p := by
  unfold encK at h
  split at h
  · rename_i a b he
    simp only [Bool.and_eq_true, beq_iff_eq] at h
    obtain ⟨rfl, rfl⟩ := h
    exact encV_of he
  · cases h
end Go.X
