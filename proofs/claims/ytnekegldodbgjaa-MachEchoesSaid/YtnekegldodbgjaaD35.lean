import Derived.Test.YtnekegldodbgjaaD34
import Derived.Test.YtnekegldodbgjaaD32
set_option linter.all false
set_option linter.unusedVariables false
set_option linter.unusedSimpArgs false
namespace Go.X
open Go Go.Proofs
set_option linter.unusedVariables false
set_option linter.unusedSimpArgs false
structure In6 (e : REnv) : Prop where
  byte : ∀ j, j < e.L0 → 0 ≤ e.inp (e.k0 + j) ∧ e.inp (e.k0 + j) < 256
  nil : e.bi = false → e.L0 = 0
abbrev in6 (e : REnv) (i : Nat) : Int := IntKind.u64.wrap (e.inp (e.k0 + i))
inductive R6 (e : REnv) : RSt → Prop
  | p0 {s} (i : Nat) (a10 a17 : Int) (hi : i ≤ e.L0) (h : EI e 0 i a10 a17 i i s) : R6 e s
  | p4 {s} (i : Nat) (a10 : Int) (hi : i ≤ e.L0) (h : EI e 4 i a10 2 i i s) : R6 e s
  | p8 {s} (i : Nat) (hi : i < e.L0) (h : EI e 8 i (in6 e i) 2 (i + 1) i s) : R6 e s
  | q8 {s} (i : Nat) (hi : i ≤ e.L0) (h : EI e 8 i 18446744073709551615 2 i i s) : R6 e s
  | p12 {s} (i : Nat) (hi : i < e.L0) (h : EI e 12 i (in6 e i) 2 (i + 1) i s) : R6 e s
  | p16 {s} (i : Nat) (hi : i < e.L0) (h : EI e 16 i (in6 e i) 1 (i + 1) i s) : R6 e s
  | p20 {s} (i : Nat) (hi : i < e.L0) (h : EI e 20 i (in6 e i) 1 (i + 1) (i + 1) s) : R6 e s
  | p24 {s} (i : Nat) (hi : i < e.L0) (h : EI e 24 ((i + 1 : Nat) : Int) (in6 e i) 1 (i + 1) (i + 1) s) : R6 e s
  | p28 {s} (i : Nat) (hi : i ≤ e.L0) (h : EI e 28 i 18446744073709551615 2 i i s) : R6 e s
  | p32 {s} (i : Nat) (hi : i ≤ e.L0) (h : EI e 32 i (i : Int) 2 i i s) : R6 e s
  | p36 {s} (i : Nat) (hi : i ≤ e.L0) (h : EI e 36 i (i : Int) 3 i i s) : R6 e s
  | fin {s} (i : Nat) (c : Int) (h : EE e c i s) : R6 e s
section
variable {e : REnv} (hin : In6 e) (hL : e.L0 ≤ 200)
theorem wrap_nat {i : Nat} (h : i ≤ 300) : IntKind.u64.wrap ((i : Int) + 1) = ((i + 1 : Nat) : Int) := by rw [u64_id (by omega) (by omega)]; omega
include hin in
theorem in6_rng {i : Nat} (hi : i < e.L0) : 0 ≤ in6 e i ∧ in6 e i < 256 := by
  have := hin.byte i hi
  unfold in6
  rw [u64_id (by omega) (by omega)]; exact this
include hin hL in
theorem R6.step {s : RSt} (h : R6 e s) (h0 : s.m.st = 0) : ∃ s', stepG noMem e s = (true, s') ∧ R6 e s' := by
  cases h with
  | p0 i a10 a17 hi h => obtain ⟨s', a, b⟩ := s6_0 h; exact ⟨s', a, .p4 i _ hi b⟩
  | p4 i a10 hi h =>
    by_cases hl : i < e.L0
    · have hb : e.bi = true := by
        cases hx : e.bi with
        | true => rfl
        | false => have := hin.nil hx; omega
      obtain ⟨s', a, b⟩ := s6_4a h hb hl
      exact ⟨s', a, .p8 i hl b⟩
    · have hb : (e.bi && Nat.blt i e.L0) = false := by
        have : Nat.blt i e.L0 = false := by rw [blt_dec]; simp; omega
        rw [this, Bool.and_false]
      obtain ⟨s', a, b⟩ := s6_4b h hb
      exact ⟨s', a, .q8 i hi b⟩
  | p8 i hi h =>
    have := in6_rng hin hi
    obtain ⟨s', a, b⟩ := s6_8a h (by omega) (by omega); exact ⟨s', a, .p12 i hi b⟩
  | q8 i hi h => obtain ⟨s', a, b⟩ := s6_8b h; exact ⟨s', a, .p28 i hi b⟩
  | p12 i hi h => obtain ⟨s', a, b⟩ := s6_12 h; exact ⟨s', a, .p16 i hi b⟩
  | p16 i hi h => obtain ⟨s', a, b⟩ := s6_16 h; exact ⟨s', a, .p20 i hi b⟩
  | p20 i hi h =>
    obtain ⟨s', a, b⟩ := s6_20 h
    rw [wrap_nat (by omega)] at b
    exact ⟨s', a, .p24 i hi b⟩
  | p24 i hi h => obtain ⟨s', a, b⟩ := s6_24 h; exact ⟨s', a, .p0 (i + 1) _ _ hi b⟩
  | p28 i hi h =>
    obtain ⟨s', a, b⟩ := s6_28 h
    rw [u64_id (x := (i : Int) + 0) (by omega) (by omega), Int.add_zero] at b
    exact ⟨s', a, .p32 i hi b⟩
  | p32 i hi h => obtain ⟨s', a, b⟩ := s6_32 h; exact ⟨s', a, .p36 i hi b⟩
  | p36 i hi h => obtain ⟨s', a, b⟩ := s6_36 h; exact ⟨s', a, .fin i _ b⟩
  | fin i c h => rw [h.st] at h0; cases h0
theorem R6.nomem {s : RSt} (h : R6 e s) (h0 : s.m.st = 0) : ¬ (38 ≤ (decA (w32 s.m)).q ∧ (decA (w32 s.m)).q ≤ 44) := by
  cases h with
  | p0 i a10 a17 hi h => rw [w6 h, d6_0]; decide
  | p4 i a10 hi h => rw [w6 h, d6_4]; decide
  | p8 i hi h => rw [w6 h, d6_8]; decide
  | q8 i hi h => rw [w6 h, d6_8]; decide
  | p12 i hi h => rw [w6 h, d6_12]; decide
  | p16 i hi h => rw [w6 h, d6_16]; decide
  | p20 i hi h => rw [w6 h, d6_20]; decide
  | p24 i hi h => rw [w6 h, d6_24]; decide
  | p28 i hi h => rw [w6 h, d6_28]; decide
  | p32 i hi h => rw [w6 h, d6_32]; decide
  | p36 i hi h => rw [w6 h, d6_36]; decide
  | fin i c h => rw [h.st] at h0; cases h0
theorem noMem_ok {n : Nat} {s : RSt} (h : ¬ (38 ≤ (decA (w32 s.m)).q ∧ (decA (w32 s.m)).q ≤ 44)) : MemOK noMem e n s := by
  intro i k hf _ h1 h2
  rw [hf.is] at h
  exact absurd ⟨h1, h2⟩ h
include hin hL in
theorem steps6 : Steps48 e 3000 (stepG noMem e) (fun n s => BaseOK e n s ∧ R6 e s) where
  se n s h := h.1.se
  go n s s' h hlt h0 hs := by
    obtain ⟨hb, hr⟩ := h
    obtain ⟨a, b⟩ := (next_of hb (by omega) (decU_all _) (noMem_ok (hr.nomem h0))).1 hs
    obtain ⟨s2, hs2, hr2⟩ := hr.step hin hL h0
    rw [hs] at hs2
    cases hs2
    exact ⟨a, b, hr2⟩
  no n s s' h hlt h0 hs := by
    obtain ⟨s2, hs2, hr2⟩ := h.2.step hin hL h0
    rw [hs] at hs2
    cases hs2
theorem go1 {step : RSt → Bool × RSt} {s s' : RSt} {k n : Nat} (h0 : s.m.st = 0) (h : step s = (true, s')) : runF step (k + 1) s n = runF step k s' (n + 1) := runF_go (by rw [h0]; rfl) h
include hin hL in
theorem run6_fin (i : Nat) (hi : i ≤ e.L0) (hl : ¬ i < e.L0) {a10 a17 : Int} {s : RSt} (h : EI e 0 i a10 a17 i i s) (k n : Nat) : ∃ s', EE e (IntKind.u8.wrap (i : Int)) i s' ∧ runF (stepG noMem e) (k + 6) s n = (s', n + 6) := by
  have hb : (e.bi && Nat.blt i e.L0) = false := by
    have : Nat.blt i e.L0 = false := by rw [blt_dec]; simp; omega
    rw [this, Bool.and_false]
  obtain ⟨s1, a1, b1⟩ := s6_0 h
  obtain ⟨s2, a2, b2⟩ := s6_4b b1 hb
  obtain ⟨s3, a3, b3⟩ := s6_8b b2
  obtain ⟨s4, a4, b4⟩ := s6_28 b3
  rw [u64_id (x := (i : Int) + 0) (by omega) (by omega), Int.add_zero] at b4
  obtain ⟨s5, a5, b5⟩ := s6_32 b4
  obtain ⟨s6, a6, b6⟩ := s6_36 b5
  refine ⟨s6, b6, ?_⟩
  rw [go1 h.st a1, go1 b1.st a2, go1 b2.st a3, go1 b3.st a4, go1 b4.st a5, go1 b5.st a6, runF_end (by rw [b6.st]; rfl)]
include hin hL in
theorem run6_all : ∀ (d i : Nat), i + d = e.L0 → ∀ {a10 a17 : Int} {s : RSt}, EI e 0 i a10 a17 i i s → ∀ (k n : Nat), ∃ s', EE e (IntKind.u8.wrap (e.L0 : Int)) e.L0 s' ∧ runF (stepG noMem e) (k + (7 * d + 6)) s n = (s', n + (7 * d + 6))
  | 0, i, hd, a10, a17, s, h, k, n => by
    have : i = e.L0 := by omega
    subst this
    exact run6_fin hin hL e.L0 (Nat.le_refl _) (by omega) h k n
  | d + 1, i, hd, a10, a17, s, h, k, n => by
    have hl : i < e.L0 := by omega
    have hb : e.bi = true := by
      cases hx : e.bi with
      | true => rfl
      | false => have := hin.nil hx; omega
    have hr := in6_rng hin hl
    obtain ⟨s1, a1, b1⟩ := s6_0 h
    obtain ⟨s2, a2, b2⟩ := s6_4a b1 hb hl
    obtain ⟨s3, a3, b3⟩ := s6_8a b2 hr.1 (by have := hr.2; unfold in6 at this; omega)
    obtain ⟨s4, a4, b4⟩ := s6_12 b3
    obtain ⟨s5, a5, b5⟩ := s6_16 b4
    obtain ⟨s6, a6, b6⟩ := s6_20 b5
    rw [wrap_nat (by omega)] at b6
    obtain ⟨s7, a7, b7⟩ := s6_24 b6
    obtain ⟨s', hee, hrun⟩ := run6_all d (i + 1) (by omega) b7 k (n + 7)
    refine ⟨s', hee, ?_⟩
    rw [show k + (7 * (d + 1) + 6) = (k + (7 * d + 6)) + 1 + 1 + 1 + 1 + 1 + 1 + 1 by omega, go1 h.st a1, go1 b1.st a2, go1 b2.st a3, go1 b3.st a4, go1 b4.st a5, go1 b5.st a6, go1 b6.st a7, hrun]
    congr 1
    omega
end
end Go.X
namespace Go.X
open Go Go.Proofs
set_option linter.unusedVariables false
set_option linter.unusedSimpArgs false
def con20b : Con Try.prog where
  f := 20
  run := fun vs _ n => match vs with
    | [.int .u32 w] => some ([], (decA w).v, [(n, some (decA w).b)], 1, decB w)
    | _ => none
  ok := fun vs h n pre v upd news hx => by
    split at hx
    · rename_i w
      simp only [Option.some.injEq, Prod.mk.injEq] at hx
      obtain ⟨rfl, rfl, rfl, rfl, hu⟩ := hx
      exact ⟨fun id hid => by simp [fstL] at hid, c20 w (decU_of hu) n⟩
    · cases hx
abbrev sc21 : Short := scOf [con20b]
theorem FOK21 : FnsOK Try.prog (lookF FL) sc21 := fok FOK _
theorem p21 : execC (lookF FL) sc21 100000 x21 (argTm 0 []) [] 100 (valK [0]) = some [.bool true] := by kernel_rfl
end Go.X
namespace Go.X
open Go Go.Proofs
set_option linter.unusedVariables false
set_option linter.unusedSimpArgs false
def c21g : List Value → Option Value
  | [] => some (.bool true)
  | _ => none
def con21 : Con Try.prog := pureC 21 c21g fun vs v n h => by
  unfold c21g at h
  split at h
  · cases h; exact adet_tree FOK21 100000 fx21 (by simp) [0] p21 rfl rfl rfl rfl n
  · cases h
abbrev sc6 : Short := scOf [con21]
theorem FOK6 : FnsOK Try.prog (lookF FL) sc6 := fok FOK _
def exT : Option Ex → Tm
  | some r => r.t
  | none => []
def exH : Option Ex → Hp
  | some r => r.h
  | none => []
def rowsF : Option Blk → Nat → List Value
  | some (.rows _ _ f _ _) => f
  | _ => fun _ => []
def exI (bi : Bool) (b : Blk) : List (Nat × Blk) := bif bi then [(40, b)] else []
def r6A (bi : Bool) (k L C : Nat) (b : Blk) : Option Ex := exec (lookF FL) sc6 100000 [] (.region x6_6) (mkT [0] [vI bi k L C]) (mkH (exI bi b)) 50
def r6B (bi : Bool) (k L C : Nat) (b : Blk) : Option Ex := exec (lookF FL) sc6 100000 [] (.region x6_7) (exT (r6A bi k L C b)) (exH (r6A bi k L C b)) 51
theorem e6A (bi : Bool) (k L C : Nat) (b : Blk) : r6A bi k L C b = some ⟨[], .normal, exT (r6A bi k L C b), exH (r6A bi k L C b), 51, true⟩ := by cases bi <;> kernel_rfl
theorem e6B (bi : Bool) (k L C : Nat) (b : Blk) : r6B bi k L C b = some ⟨[], .normal, exT (r6B bi k L C b), exH (r6B bi k L C b), 134, true⟩ := by cases bi <;> kernel_rfl
def mB0 : List Value := [.slice (some ⟨131, 0, none⟩) 64 64] ++ regs (fun _ => 0) ++ [.int .u64 0, .int .i64 0, .int .u8 0, .map (some 132)]
theorem e6B1 (bi : Bool) (k L C : Nat) (b : Blk) : (look (exT (r6B bi k L C b)) 4, look (exT (r6B bi k L C b)) 5, look (exT (r6B bi k L C b)) 0, hget (exH (r6B bi k L C b)) 133, (hget (exH (r6B bi k L C b)) 131), (bif bi then hget (exH (r6B bi k L C b)) 40 else some b)) =
    (some (true, .pointer (some ⟨133, 0, some 0⟩)), some (true, .int .i64 0), some (true, vI bi k L C), some (.var mB0), some (.rows 64 1 (rowsF (hget (exH (r6B bi k L C b)) 131)) false false), some b) := by cases bi <;> kernel_rfl
def mapHas' : Option Blk → Value → Bool
  | some (.map _ _ _ h _) => h
  | _ => fun _ => false
def mapVal' : Option Blk → Value → Value
  | some (.map _ _ _ _ v) => v
  | _ => fun _ => undefd
theorem e6B2 (bi : Bool) (k L C : Nat) (b : Blk) : (hget (exH (r6B bi k L C b)) 132, mapHas' (hget (exH (r6B bi k L C b)) 132), mapVal' (hget (exH (r6B bi k L C b)) 132)) =
    (some (.map 35 26 0 (fun _ => false) (fun _ => i18 0 0 0 0 0)), (fun _ => false), (fun _ => i18 0 0 0 0 0)) := by cases bi <;> kernel_rfl
theorem e6B3 (bi : Bool) (k L C : Nat) (b : Blk) : (List.range 64).map (rowsF (hget (exH (r6B bi k L C b)) 131)) = (List.range 64).map fun j => [Value.int .u8 (mem6 j)] := by cases bi <;> kernel_rfl
end Go.X
namespace Go.X
open Go Go.Proofs
set_option linter.unusedVariables false
set_option linter.unusedSimpArgs false
noncomputable abbrev sc6r (vin : Value) (pre : List (Nat × Blk)) (m : MS) (bo : Bool) (oN : Nat) (of : Nat → Int) (n mk : Int) : Short := scOf [conAt 24 [pM, vin, .int .i64 3000] pre (resV24 m (vOa 111 bo oN) n mk) (upd24a m bo oN of n mk) 110 2]
attribute [local congr] cond_ctx
theorem p6_tt (m0 m : MS) (k L C T : Nat) (inp : Nat → Int) (oN : Nat) (of : Nat → Int) (n mk : Int) (pre : List (Nat × Blk)) : walk (lookF FL) (sc6r (vI true k L C) pre m true oN of n mk) 1000 x6_16 (mkT [4, 0] [pM, vI true k L C]) (mkH ([(90, m0.memB), (91, m0.kn.blk), (92, m0.mB)] ++ exI true (inB T inp))) 110 (Pj.mk [] [] [] []) (Pj.mk [2] [] [] [40]) (Pj.mk [] [] [] []) = bif decP ([pM, vI true k L C, .int .i64 3000] = [pM, vI true k L C, .int .i64 3000] ∧ Has (mkH ([(90, m0.memB), (91, m0.kn.blk), (92, m0.mB)] ++ exI true (inB T inp))) pre ∧ AtN 24 [pM, vI true k L C, .int .i64 3000] pre (resV24 m (vOa 111 true oN) n mk) (upd24a m true oN of n mk) 110 2) then bif ((decide (k + L ≤ T) && (List.range L).all fun j ↦ isU8 [Value.int IntKind.u8 (inp (k + j))]) && (m.st == 1 && IntKind.i64.wrap m.cd == (↑L : Int).tmod 256) || !(m.st == 1 && IntKind.i64.wrap m.cd == (↑L : Int).tmod 256)) && ((decide (oN ≤ oN) && (List.range oN).all fun j ↦ isU8 [Value.int IntKind.u8 (of j)]) && (m.st == 1 && IntKind.i64.wrap m.cd == (↑L : Int).tmod 256) || !(m.st == 1 && IntKind.i64.wrap m.cd == (↑L : Int).tmod 256)) then some (Stop.mk (Leaf.mk [some (true, Value.bool (m.st == 1 && IntKind.i64.wrap m.cd == (↑L : Int).tmod 256 && (ByteArray.mk (List.map (fun j ↦ u8Of [Value.int IntKind.u8 (of j)]) (List.range oN)).toArray).toList == (ByteArray.mk (List.map (fun j ↦ u8Of [Value.int IntKind.u8 (inp (k + j))]) (List.range L)).toArray).toList && n == IntKind.i64.wrap (IntKind.i64.wrap (7 * (↑L : Int)) + 6)))] [] Exit.ret 113) none) else none else none := Eq.trans (b := bif decP ([pM, vI true k L C, .int .i64 3000] = [pM, vI true k L C, .int .i64 3000] ∧ Has (mkH ([(90, m0.memB), (91, m0.kn.blk), (92, m0.mB)] ++ exI true (inB T inp))) pre ∧ AtN 24 [pM, vI true k L C, .int .i64 3000] pre (resV24 m (vOa 111 true oN) n mk) (upd24a m true oN of n mk) 110 2) && true && true then bif (((bif bif m.st == 1 then IntKind.i64.wrap m.cd == (↑L : Int).tmod 256 else false then (ByteArray.mk (List.map (fun j ↦ u8Of ((fun j ↦ [Value.int IntKind.u8 (of j)]) (0 + j))) (List.range oN)).toArray).toList == (ByteArray.mk (List.map (fun j ↦ u8Of ((fun j ↦ [Value.int IntKind.u8 (inp j)]) (k + j))) (List.range L)).toArray).toList else false) || !bif bif m.st == 1 then IntKind.i64.wrap m.cd == (↑L : Int).tmod 256 else false then (ByteArray.mk (List.map (fun j ↦ u8Of ((fun j ↦ [Value.int IntKind.u8 (of j)]) (0 + j))) (List.range oN)).toArray).toList == (ByteArray.mk (List.map (fun j ↦ u8Of ((fun j ↦ [Value.int IntKind.u8 (inp j)]) (k + j))) (List.range L)).toArray).toList else false) && true || false) && (((bif bif m.st == 1 then IntKind.i64.wrap m.cd == (↑L : Int).tmod 256 else false then (ByteArray.mk (List.map (fun j ↦ u8Of ((fun j ↦ [Value.int IntKind.u8 (of j)]) (0 + j))) (List.range oN)).toArray).toList == (ByteArray.mk (List.map (fun j ↦ u8Of ((fun j ↦ [Value.int IntKind.u8 (inp j)]) (k + j))) (List.range L)).toArray).toList else false) && ((bif bif m.st == 1 then IntKind.i64.wrap m.cd == (↑L : Int).tmod 256 else false then (ByteArray.mk (List.map (fun j ↦ u8Of ((fun j ↦ [Value.int IntKind.u8 (of j)]) (0 + j))) (List.range oN)).toArray).toList == (ByteArray.mk (List.map (fun j ↦ u8Of ((fun j ↦ [Value.int IntKind.u8 (inp j)]) (k + j))) (List.range L)).toArray).toList else false) && true) || !bif bif m.st == 1 then IntKind.i64.wrap m.cd == (↑L : Int).tmod 256 else false then (ByteArray.mk (List.map (fun j ↦ u8Of ((fun j ↦ [Value.int IntKind.u8 (of j)]) (0 + j))) (List.range oN)).toArray).toList == (ByteArray.mk (List.map (fun j ↦ u8Of ((fun j ↦ [Value.int IntKind.u8 (inp j)]) (k + j))) (List.range L)).toArray).toList else false) && (((bif bif m.st == 1 then IntKind.i64.wrap m.cd == (↑L : Int).tmod 256 else false then (ByteArray.mk (List.map (fun j ↦ u8Of ((fun j ↦ [Value.int IntKind.u8 (of j)]) (0 + j))) (List.range oN)).toArray).toList == (ByteArray.mk (List.map (fun j ↦ u8Of ((fun j ↦ [Value.int IntKind.u8 (inp j)]) (k + j))) (List.range L)).toArray).toList else false) && true || !bif bif m.st == 1 then IntKind.i64.wrap m.cd == (↑L : Int).tmod 256 else false then (ByteArray.mk (List.map (fun j ↦ u8Of ((fun j ↦ [Value.int IntKind.u8 (of j)]) (0 + j))) (List.range oN)).toArray).toList == (ByteArray.mk (List.map (fun j ↦ u8Of ((fun j ↦ [Value.int IntKind.u8 (inp j)]) (k + j))) (List.range L)).toArray).toList else false) && (((bif bif m.st == 1 then IntKind.i64.wrap m.cd == (↑L : Int).tmod 256 else false then (ByteArray.mk (List.map (fun j ↦ u8Of ((fun j ↦ [Value.int IntKind.u8 (of j)]) (0 + j))) (List.range oN)).toArray).toList == (ByteArray.mk (List.map (fun j ↦ u8Of ((fun j ↦ [Value.int IntKind.u8 (inp j)]) (k + j))) (List.range L)).toArray).toList else false) && true || !bif bif m.st == 1 then IntKind.i64.wrap m.cd == (↑L : Int).tmod 256 else false then (ByteArray.mk (List.map (fun j ↦ u8Of ((fun j ↦ [Value.int IntKind.u8 (of j)]) (0 + j))) (List.range oN)).toArray).toList == (ByteArray.mk (List.map (fun j ↦ u8Of ((fun j ↦ [Value.int IntKind.u8 (inp j)]) (k + j))) (List.range L)).toArray).toList else false) && (((bif bif m.st == 1 then IntKind.i64.wrap m.cd == (↑L : Int).tmod 256 else false then (ByteArray.mk (List.map (fun j ↦ u8Of ((fun j ↦ [Value.int IntKind.u8 (of j)]) (0 + j))) (List.range oN)).toArray).toList == (ByteArray.mk (List.map (fun j ↦ u8Of ((fun j ↦ [Value.int IntKind.u8 (inp j)]) (k + j))) (List.range L)).toArray).toList else false) && true || !bif bif m.st == 1 then IntKind.i64.wrap m.cd == (↑L : Int).tmod 256 else false then (ByteArray.mk (List.map (fun j ↦ u8Of ((fun j ↦ [Value.int IntKind.u8 (of j)]) (0 + j))) (List.range oN)).toArray).toList == (ByteArray.mk (List.map (fun j ↦ u8Of ((fun j ↦ [Value.int IntKind.u8 (inp j)]) (k + j))) (List.range L)).toArray).toList else false) && (((bif bif m.st == 1 then IntKind.i64.wrap m.cd == (↑L : Int).tmod 256 else false then (ByteArray.mk (List.map (fun j ↦ u8Of ((fun j ↦ [Value.int IntKind.u8 (of j)]) (0 + j))) (List.range oN)).toArray).toList == (ByteArray.mk (List.map (fun j ↦ u8Of ((fun j ↦ [Value.int IntKind.u8 (inp j)]) (k + j))) (List.range L)).toArray).toList else false) && true || !bif bif m.st == 1 then IntKind.i64.wrap m.cd == (↑L : Int).tmod 256 else false then (ByteArray.mk (List.map (fun j ↦ u8Of ((fun j ↦ [Value.int IntKind.u8 (of j)]) (0 + j))) (List.range oN)).toArray).toList == (ByteArray.mk (List.map (fun j ↦ u8Of ((fun j ↦ [Value.int IntKind.u8 (inp j)]) (k + j))) (List.range L)).toArray).toList else false) && ((((bif m.st == 1 then IntKind.i64.wrap m.cd == (↑L : Int).tmod 256 else false) || !bif m.st == 1 then IntKind.i64.wrap m.cd == (↑L : Int).tmod 256 else false) && true || false) && (((bif m.st == 1 then IntKind.i64.wrap m.cd == (↑L : Int).tmod 256 else false) && ((bif m.st == 1 then IntKind.i64.wrap m.cd == (↑L : Int).tmod 256 else false) && true) || !bif m.st == 1 then IntKind.i64.wrap m.cd == (↑L : Int).tmod 256 else false) && ((((k + L).ble T && true && (List.range L).all fun j ↦ isU8 ((fun j ↦ [Value.int IntKind.u8 (inp j)]) (k + j))) && ((bif m.st == 1 then IntKind.i64.wrap m.cd == (↑L : Int).tmod 256 else false) && true) || !bif m.st == 1 then IntKind.i64.wrap m.cd == (↑L : Int).tmod 256 else false) && ((((0 + oN).ble oN && true && (List.range oN).all fun j ↦ isU8 ((fun j ↦ [Value.int IntKind.u8 (of j)]) (0 + j))) && ((bif m.st == 1 then IntKind.i64.wrap m.cd == (↑L : Int).tmod 256 else false) && true) || !bif m.st == 1 then IntKind.i64.wrap m.cd == (↑L : Int).tmod 256 else false) && (((bif m.st == 1 then IntKind.i64.wrap m.cd == (↑L : Int).tmod 256 else false) && true || !bif m.st == 1 then IntKind.i64.wrap m.cd == (↑L : Int).tmod 256 else false) && (((m.st == 1 || !m.st == 1) && true || false) && ((m.st == 1 && (m.st == 1 && true) || !m.st == 1) && ((m.st == 1 && true || !m.st == 1) && ((m.st == 1 && true || !m.st == 1) && ((m.st == 1 && true || !m.st == 1) && ((m.st == 1 && true || !m.st == 1) && true)))))))))))))))) then some (Stop.mk (Leaf.mk [some (true, Value.bool (bif bif bif m.st == 1 then IntKind.i64.wrap m.cd == (↑L : Int).tmod 256 else false then (ByteArray.mk (List.map (fun j ↦ u8Of ((fun j ↦ [Value.int IntKind.u8 (of j)]) (0 + j))) (List.range oN)).toArray).toList == (ByteArray.mk (List.map (fun j ↦ u8Of ((fun j ↦ [Value.int IntKind.u8 (inp j)]) (k + j))) (List.range L)).toArray).toList else false then n == IntKind.i64.wrap (IntKind.i64.wrap (7 * (↑L : Int)) + 6) else false))] [] Exit.ret 113) none) else none else none) (by kernel_rfl) (by simp (contextual := true) only [bn, bc])
theorem p6_tf (m0 m : MS) (k L C T : Nat) (inp : Nat → Int) (oN : Nat) (of : Nat → Int) (n mk : Int) (pre : List (Nat × Blk)) : walk (lookF FL) (sc6r (vI true k L C) pre m false oN of n mk) 1000 x6_16 (mkT [4, 0] [pM, vI true k L C]) (mkH ([(90, m0.memB), (91, m0.kn.blk), (92, m0.mB)] ++ exI true (inB T inp))) 110 (Pj.mk [] [] [] []) (Pj.mk [2] [] [] [40]) (Pj.mk [] [] [] []) = bif decP ([pM, vI true k L C, .int .i64 3000] = [pM, vI true k L C, .int .i64 3000] ∧ Has (mkH ([(90, m0.memB), (91, m0.kn.blk), (92, m0.mB)] ++ exI true (inB T inp))) pre ∧ AtN 24 [pM, vI true k L C, .int .i64 3000] pre (resV24 m (vOa 111 false oN) n mk) (upd24a m false oN of n mk) 110 2) then bif (decide (k + L ≤ T) && (List.range L).all fun j ↦ isU8 [Value.int IntKind.u8 (inp (k + j))]) && (m.st == 1 && IntKind.i64.wrap m.cd == (↑L : Int).tmod 256) || !(m.st == 1 && IntKind.i64.wrap m.cd == (↑L : Int).tmod 256) then some (Stop.mk (Leaf.mk [some (true, Value.bool (m.st == 1 && IntKind.i64.wrap m.cd == (↑L : Int).tmod 256 && ByteArray.empty.toList == (ByteArray.mk (List.map (fun j ↦ u8Of [Value.int IntKind.u8 (inp (k + j))]) (List.range L)).toArray).toList && n == IntKind.i64.wrap (IntKind.i64.wrap (7 * (↑L : Int)) + 6)))] [] Exit.ret 113) none) else none else none := Eq.trans (b := bif decP ([pM, vI true k L C, .int .i64 3000] = [pM, vI true k L C, .int .i64 3000] ∧ Has (mkH ([(90, m0.memB), (91, m0.kn.blk), (92, m0.mB)] ++ exI true (inB T inp))) pre ∧ AtN 24 [pM, vI true k L C, .int .i64 3000] pre (resV24 m (vOa 111 false oN) n mk) (upd24a m false oN of n mk) 110 2) && true && true then bif (((bif bif m.st == 1 then IntKind.i64.wrap m.cd == (↑L : Int).tmod 256 else false then ByteArray.empty.toList == (ByteArray.mk (List.map (fun j ↦ u8Of ((fun j ↦ [Value.int IntKind.u8 (inp j)]) (k + j))) (List.range L)).toArray).toList else false) || !bif bif m.st == 1 then IntKind.i64.wrap m.cd == (↑L : Int).tmod 256 else false then ByteArray.empty.toList == (ByteArray.mk (List.map (fun j ↦ u8Of ((fun j ↦ [Value.int IntKind.u8 (inp j)]) (k + j))) (List.range L)).toArray).toList else false) && true || false) && (((bif bif m.st == 1 then IntKind.i64.wrap m.cd == (↑L : Int).tmod 256 else false then ByteArray.empty.toList == (ByteArray.mk (List.map (fun j ↦ u8Of ((fun j ↦ [Value.int IntKind.u8 (inp j)]) (k + j))) (List.range L)).toArray).toList else false) && ((bif bif m.st == 1 then IntKind.i64.wrap m.cd == (↑L : Int).tmod 256 else false then ByteArray.empty.toList == (ByteArray.mk (List.map (fun j ↦ u8Of ((fun j ↦ [Value.int IntKind.u8 (inp j)]) (k + j))) (List.range L)).toArray).toList else false) && true) || !bif bif m.st == 1 then IntKind.i64.wrap m.cd == (↑L : Int).tmod 256 else false then ByteArray.empty.toList == (ByteArray.mk (List.map (fun j ↦ u8Of ((fun j ↦ [Value.int IntKind.u8 (inp j)]) (k + j))) (List.range L)).toArray).toList else false) && (((bif bif m.st == 1 then IntKind.i64.wrap m.cd == (↑L : Int).tmod 256 else false then ByteArray.empty.toList == (ByteArray.mk (List.map (fun j ↦ u8Of ((fun j ↦ [Value.int IntKind.u8 (inp j)]) (k + j))) (List.range L)).toArray).toList else false) && true || !bif bif m.st == 1 then IntKind.i64.wrap m.cd == (↑L : Int).tmod 256 else false then ByteArray.empty.toList == (ByteArray.mk (List.map (fun j ↦ u8Of ((fun j ↦ [Value.int IntKind.u8 (inp j)]) (k + j))) (List.range L)).toArray).toList else false) && (((bif bif m.st == 1 then IntKind.i64.wrap m.cd == (↑L : Int).tmod 256 else false then ByteArray.empty.toList == (ByteArray.mk (List.map (fun j ↦ u8Of ((fun j ↦ [Value.int IntKind.u8 (inp j)]) (k + j))) (List.range L)).toArray).toList else false) && true || !bif bif m.st == 1 then IntKind.i64.wrap m.cd == (↑L : Int).tmod 256 else false then ByteArray.empty.toList == (ByteArray.mk (List.map (fun j ↦ u8Of ((fun j ↦ [Value.int IntKind.u8 (inp j)]) (k + j))) (List.range L)).toArray).toList else false) && (((bif bif m.st == 1 then IntKind.i64.wrap m.cd == (↑L : Int).tmod 256 else false then ByteArray.empty.toList == (ByteArray.mk (List.map (fun j ↦ u8Of ((fun j ↦ [Value.int IntKind.u8 (inp j)]) (k + j))) (List.range L)).toArray).toList else false) && true || !bif bif m.st == 1 then IntKind.i64.wrap m.cd == (↑L : Int).tmod 256 else false then ByteArray.empty.toList == (ByteArray.mk (List.map (fun j ↦ u8Of ((fun j ↦ [Value.int IntKind.u8 (inp j)]) (k + j))) (List.range L)).toArray).toList else false) && (((bif bif m.st == 1 then IntKind.i64.wrap m.cd == (↑L : Int).tmod 256 else false then ByteArray.empty.toList == (ByteArray.mk (List.map (fun j ↦ u8Of ((fun j ↦ [Value.int IntKind.u8 (inp j)]) (k + j))) (List.range L)).toArray).toList else false) && true || !bif bif m.st == 1 then IntKind.i64.wrap m.cd == (↑L : Int).tmod 256 else false then ByteArray.empty.toList == (ByteArray.mk (List.map (fun j ↦ u8Of ((fun j ↦ [Value.int IntKind.u8 (inp j)]) (k + j))) (List.range L)).toArray).toList else false) && ((((bif m.st == 1 then IntKind.i64.wrap m.cd == (↑L : Int).tmod 256 else false) || !bif m.st == 1 then IntKind.i64.wrap m.cd == (↑L : Int).tmod 256 else false) && true || false) && (((bif m.st == 1 then IntKind.i64.wrap m.cd == (↑L : Int).tmod 256 else false) && ((bif m.st == 1 then IntKind.i64.wrap m.cd == (↑L : Int).tmod 256 else false) && true) || !bif m.st == 1 then IntKind.i64.wrap m.cd == (↑L : Int).tmod 256 else false) && ((((k + L).ble T && true && (List.range L).all fun j ↦ isU8 ((fun j ↦ [Value.int IntKind.u8 (inp j)]) (k + j))) && ((bif m.st == 1 then IntKind.i64.wrap m.cd == (↑L : Int).tmod 256 else false) && true) || !bif m.st == 1 then IntKind.i64.wrap m.cd == (↑L : Int).tmod 256 else false) && (((bif m.st == 1 then IntKind.i64.wrap m.cd == (↑L : Int).tmod 256 else false) && true || !bif m.st == 1 then IntKind.i64.wrap m.cd == (↑L : Int).tmod 256 else false) && (((bif m.st == 1 then IntKind.i64.wrap m.cd == (↑L : Int).tmod 256 else false) && true || !bif m.st == 1 then IntKind.i64.wrap m.cd == (↑L : Int).tmod 256 else false) && (((m.st == 1 || !m.st == 1) && true || false) && ((m.st == 1 && (m.st == 1 && true) || !m.st == 1) && ((m.st == 1 && true || !m.st == 1) && ((m.st == 1 && true || !m.st == 1) && ((m.st == 1 && true || !m.st == 1) && ((m.st == 1 && true || !m.st == 1) && true)))))))))))))))) then some (Stop.mk (Leaf.mk [some (true, Value.bool (bif bif bif m.st == 1 then IntKind.i64.wrap m.cd == (↑L : Int).tmod 256 else false then ByteArray.empty.toList == (ByteArray.mk (List.map (fun j ↦ u8Of ((fun j ↦ [Value.int IntKind.u8 (inp j)]) (k + j))) (List.range L)).toArray).toList else false then n == IntKind.i64.wrap (IntKind.i64.wrap (7 * (↑L : Int)) + 6) else false))] [] Exit.ret 113) none) else none else none) (by kernel_rfl) (by simp (contextual := true) only [bn, bc])
theorem p6_ff (m0 m : MS) (k L C T : Nat) (inp : Nat → Int) (oN : Nat) (of : Nat → Int) (n mk : Int) (pre : List (Nat × Blk)) : walk (lookF FL) (sc6r (vI false k L C) pre m false oN of n mk) 1000 x6_16 (mkT [4, 0] [pM, vI false k L C]) (mkH ([(90, m0.memB), (91, m0.kn.blk), (92, m0.mB)] ++ exI false (inB T inp))) 110 (Pj.mk [] [] [] []) (Pj.mk [2] [] [] []) (Pj.mk [] [] [] []) = bif decP ([pM, vI false k L C, .int .i64 3000] = [pM, vI false k L C, .int .i64 3000] ∧ Has (mkH ([(90, m0.memB), (91, m0.kn.blk), (92, m0.mB)] ++ exI false (inB T inp))) pre ∧ AtN 24 [pM, vI false k L C, .int .i64 3000] pre (resV24 m (vOa 111 false oN) n mk) (upd24a m false oN of n mk) 110 2) then some (Stop.mk (Leaf.mk [some (true, Value.bool (m.st == 1 && IntKind.i64.wrap m.cd == 0 && n == 6))] [] Exit.ret 113) none) else none := Eq.trans (b := bif decP ([pM, vI false k L C, .int .i64 3000] = [pM, vI false k L C, .int .i64 3000] ∧ Has (mkH ([(90, m0.memB), (91, m0.kn.blk), (92, m0.mB)] ++ exI false (inB T inp))) pre ∧ AtN 24 [pM, vI false k L C, .int .i64 3000] pre (resV24 m (vOa 111 false oN) n mk) (upd24a m false oN of n mk) 110 2) && true && true then bif (((bif bif m.st == 1 then IntKind.i64.wrap m.cd == 0 else false then true else false) || !bif bif m.st == 1 then IntKind.i64.wrap m.cd == 0 else false then true else false) && true || false) && (((bif bif m.st == 1 then IntKind.i64.wrap m.cd == 0 else false then true else false) && ((bif bif m.st == 1 then IntKind.i64.wrap m.cd == 0 else false then true else false) && true) || !bif bif m.st == 1 then IntKind.i64.wrap m.cd == 0 else false then true else false) && (((bif bif m.st == 1 then IntKind.i64.wrap m.cd == 0 else false then true else false) && true || !bif bif m.st == 1 then IntKind.i64.wrap m.cd == 0 else false then true else false) && (((bif bif m.st == 1 then IntKind.i64.wrap m.cd == 0 else false then true else false) && true || !bif bif m.st == 1 then IntKind.i64.wrap m.cd == 0 else false then true else false) && (((bif bif m.st == 1 then IntKind.i64.wrap m.cd == 0 else false then true else false) && true || !bif bif m.st == 1 then IntKind.i64.wrap m.cd == 0 else false then true else false) && (((bif bif m.st == 1 then IntKind.i64.wrap m.cd == 0 else false then true else false) && true || !bif bif m.st == 1 then IntKind.i64.wrap m.cd == 0 else false then true else false) && ((((bif m.st == 1 then IntKind.i64.wrap m.cd == 0 else false) || !bif m.st == 1 then IntKind.i64.wrap m.cd == 0 else false) && true || false) && (((bif m.st == 1 then IntKind.i64.wrap m.cd == 0 else false) && ((bif m.st == 1 then IntKind.i64.wrap m.cd == 0 else false) && true) || !bif m.st == 1 then IntKind.i64.wrap m.cd == 0 else false) && (((bif m.st == 1 then IntKind.i64.wrap m.cd == 0 else false) && true || !bif m.st == 1 then IntKind.i64.wrap m.cd == 0 else false) && (((bif m.st == 1 then IntKind.i64.wrap m.cd == 0 else false) && true || !bif m.st == 1 then IntKind.i64.wrap m.cd == 0 else false) && (((bif m.st == 1 then IntKind.i64.wrap m.cd == 0 else false) && true || !bif m.st == 1 then IntKind.i64.wrap m.cd == 0 else false) && (((m.st == 1 || !m.st == 1) && true || false) && ((m.st == 1 && (m.st == 1 && true) || !m.st == 1) && ((m.st == 1 && true || !m.st == 1) && ((m.st == 1 && true || !m.st == 1) && ((m.st == 1 && true || !m.st == 1) && ((m.st == 1 && true || !m.st == 1) && true)))))))))))))))) then some (Stop.mk (Leaf.mk [some (true, Value.bool (bif bif bif m.st == 1 then IntKind.i64.wrap m.cd == 0 else false then true else false then n == 6 else false))] [] Exit.ret 113) none) else none else none) (by kernel_rfl) (by simp (contextual := true) only [bn, bc]) 
def m6 : MS := ⟨64, mem6, fun _ => 0, 0, 0, 0, ⟨0, fun _ => false⟩⟩
section
variable (bi : Bool) (k L C T : Nat) (inp : Nat → Int)
abbrev π6 : List (Nat × Nat) := [(90, 131), (91, 132), (92, 133), (40, 40)]
theorem wk6g {E : FEnv} (hP : E.P = Try.prog) (hn : E.B.n = 50) {tB : Tm} {hB : Hp} {f : Nat → List Value} (a1 : look tB 4 = some (true, .pointer (some ⟨133, 0, some 0⟩))) (a2 : look tB 5 = some (true, .int .i64 0)) (a3 : look tB 0 = some (true, vI bi k L C))
    (a4 : hget hB 133 = some (.var mB0)) (a5 : hget hB 131 = some (.rows 64 1 f false false)) (b1 : hget hB 132 = some (.map 35 26 0 (fun _ => false) (fun _ => i18 0 0 0 0 0))) (hmem : ∀ j, j < 64 → f j = [Value.int .u8 (mem6 j)]) (a6 : bi = true → hget hB 40 = some (inB T inp)) :
    Wk E.toEnv ⟨tB, hB, 134⟩ ⟨mkT [4, 5, 0] [pM, .int .i64 0, vI bi k L C], mkH ([(90, m6.memB), (91, m6.kn.blk), (92, m6.mB)] ++ exI bi (inB T inp)), 110⟩ := by
  have q1 : BIs Try.prog (stayOr 50 π6) m6.memB (.rows 64 1 f false false) := ⟨rfl, rfl, fun j hj => by rw [hmem j hj]; rfl, .inr (.inl rfl), .inr rfl⟩
  have q2 : BIs Try.prog (stayOr 50 π6) m6.kn.blk (.map 35 26 0 (fun _ => false) (fun _ => i18 0 0 0 0 0)) := ⟨rfl, rfl, rfl, fun d q _ _ => ⟨rfl, rfl⟩⟩
  have q3 : BIs Try.prog (stayOr 50 π6) m6.mB (.var mB0) := rfl
  have g131 : (match hget hB 131 with | some b => BIs Try.prog (stayOr 50 π6) m6.memB b | none => False) := by rw [a5]; exact q1
  have g132 : (match hget hB 132 with | some b => BIs Try.prog (stayOr 50 π6) m6.kn.blk b | none => False) := by rw [b1]; exact q2
  have g133 : (match hget hB 133 with | some b => BIs Try.prog (stayOr 50 π6) m6.mB b | none => False) := by rw [a4]; exact q3
  have hv : rn (stayOr 50 π6) (vI bi k L C) = vI bi k L C := vI_stay (σ := stayOr 50 π6) (fun _ => rfl)
  refine weak π6 ?_ ?_ ?_ ?_ <;> rw [hn]
  · rfl
  · cases bi <;> rfl
  · exact ⟨⟨rfl, a1⟩, ⟨rfl, a2⟩, ⟨rfl, by rw [a3, hv]⟩, trivial⟩
  · rw [hP]
    cases bi
    · exact ⟨g131, g132, g133, trivial⟩
    · refine ⟨g131, g132, g133, ?_, trivial⟩
      show (match hget hB 40 with | some b => BIs Try.prog (stayOr 50 π6) (inB T inp) b | none => False)
      rw [a6 rfl]
      exact bis_inB
theorem mem_list {f : Nat → List Value} {g : Nat → Int} {n : Nat} (h : (List.range n).map f = (List.range n).map fun j => [Value.int .u8 (g j)]) : ∀ j, j < n → f j = [Value.int .u8 (g j)] := fun j hj => by
  have h4 := congrArg (fun l => l[j]?) h
  simp only [List.getElem?_map, List.getElem?_range hj, Option.map_some, Option.some.injEq] at h4
  exact h4
theorem fst_eq {α β : Type} {a c : α} {b d : β} (h : (a, b) = (c, d)) : a = c ∧ b = d := by cases h; exact ⟨rfl, rfl⟩
theorem wk6 {E : FEnv} (hP : E.P = Try.prog) (hn : E.B.n = 50) : Wk E.toEnv ⟨exT (r6B bi k L C (inB T inp)), exH (r6B bi k L C (inB T inp)), 134⟩ ⟨mkT [4, 5, 0] [pM, .int .i64 0, vI bi k L C], mkH ([(90, m6.memB), (91, m6.kn.blk), (92, m6.mB)] ++ exI bi (inB T inp)), 110⟩ := by
  have h1 := e6B1 bi k L C (inB T inp)
  have h2 := e6B2 bi k L C (inB T inp)
  have h3 := e6B3 bi k L C (inB T inp)
  generalize exT (r6B bi k L C (inB T inp)) = tB at *
  generalize exH (r6B bi k L C (inB T inp)) = hB at *
  obtain ⟨a1, h1⟩ := fst_eq h1
  obtain ⟨a2, h1⟩ := fst_eq h1
  obtain ⟨a3, h1⟩ := fst_eq h1
  obtain ⟨a4, h1⟩ := fst_eq h1
  obtain ⟨a5, a6⟩ := fst_eq h1
  exact wk6g bi k L C T inp hP hn a1 a2 a3 a4 a5 (fst_eq h2).1 (mem_list h3) (fun hb => by rw [hb] at a6; exact a6)
end
end Go.X
