import Derived.Test.YtnekegldodbgjaaG36
import Derived.Test.YtnekegldodbgjaaG39
import Derived.Test.YtnekegldodbgjaaG35
set_option linter.all false
namespace Go.X
open Go Go.Proofs
def prog6 : List Int := [147, 8, 32, 0, 115, 0, 0, 0, 99, 74, 5, 0, 147, 8, 16, 0, 115, 0, 0, 0, 147, 130, 18, 0, 111, 240, 159, 254, 19, 133, 2, 0, 147, 8, 48, 0, 115, 0, 0, 0]
def mem6 (j : Nat) : Int := prog6.getD j 0
def noMem (e : REnv) (s : RSt) (i : Ans) : Bool × RSt := (false, s)
structure EI (e : REnv) (p a5 a10 a17 : Int) (ik oN : Nat) (s : RSt) : Prop where
  sz : s.m.sz = 64
  mem : s.m.mem = mem6
  pl : s.m.pl = p
  st : s.m.st = 0
  x0 : s.m.x 0 = 0
  x5 : s.m.x 5 = a5
  x10 : s.m.x 10 = a10
  x17 : s.m.x 17 = a17
  fik : s.ik = ik
  foN : s.oN = oN
  out : ∀ j, j < oN -> s.of j = IntKind.u8.wrap (IntKind.u64.wrap (e.inp (e.k0 + j)))
def word6 (p : Int) : Int := IntKind.u32.wrap (num4 mem6 (p.toNat * 1))
theorem w6 {e : REnv} {p a5 a10 a17 : Int} {ik oN : Nat} {s : RSt} (h : EI e p a5 a10 a17 ik oN s) : w32 s.m = word6 p := by unfold w32 word6; rw [h.mem, h.pl]
theorem d6_0 : decA (word6 0) = ⟨28, ⟨17, 0, 0, 2⟩, 0⟩ := by kernel_rfl
theorem d6_4 : decA (word6 4) = ⟨55, ⟨0, 0, 0, 0⟩, 0⟩ := by kernel_rfl
theorem d6_8 : decA (word6 8) = ⟨47, ⟨0, 10, 0, 20⟩, 0⟩ := by kernel_rfl
theorem d6_12 : decA (word6 12) = ⟨28, ⟨17, 0, 0, 1⟩, 0⟩ := by kernel_rfl
theorem d6_16 : decA (word6 16) = ⟨55, ⟨0, 0, 0, 0⟩, 0⟩ := by kernel_rfl
theorem d6_20 : decA (word6 20) = ⟨28, ⟨5, 5, 0, 1⟩, 0⟩ := by kernel_rfl
theorem d6_24 : decA (word6 24) = ⟨53, ⟨0, 0, 0, -24⟩, 0⟩ := by kernel_rfl
theorem d6_28 : decA (word6 28) = ⟨28, ⟨10, 5, 0, 0⟩, 0⟩ := by kernel_rfl
theorem d6_32 : decA (word6 32) = ⟨28, ⟨17, 0, 0, 3⟩, 0⟩ := by kernel_rfl
theorem d6_36 : decA (word6 36) = ⟨55, ⟨0, 0, 0, 0⟩, 0⟩ := by kernel_rfl
section
variable {e : REnv} {p a5 a10 a17 : Int} {ik oN : Nat} {s : RSt} (h : EI e p a5 a10 a17 ik oN s)
include h
theorem go_plain {op : Int} {c : Cand} (hp : plB 64 p 4 = true) (hd : decA (word6 p) = ⟨op, c, 0⟩) (ho : plainB op = true) : stepG noMem e s = (true, { s with m := stepM s.m s.m.kn' op c, mark := markF op c s.mark }) := by
  unfold stepG
  rw [w6 h, hd, h.sz, h.pl, hp]
  simp only [cond_true, ho, beq_self_eq_true]
theorem go_call {c : Cand} (hp : plB 64 p 4 = true) (hd : decA (word6 p) = ⟨55, c, 0⟩) : stepG noMem e s = callR e s s.m.kn' := by
  unfold stepG
  rw [w6 h, hd, h.sz, h.pl, hp]
  rfl
end
section
variable {e : REnv} {a5 a10 a17 : Int} {ik oN : Nat} {s : RSt}
theorem s6_0 (h : EI e 0 a5 a10 a17 ik oN s) : ∃ s', stepG noMem e s = (true, s') /\ EI e 4 a5 a10 2 ik oN s' := by
  refine ⟨_, go_plain h rfl d6_0 rfl, h.sz, h.mem, ?_, h.st, rfl, h.x5, h.x10, ?_, h.fik, h.foN, h.out⟩
  · show IntKind.u64.wrap (s.m.pl + 4) = 4; rw [h.pl]; rfl
  · show IntKind.u64.wrap (s.m.x 0 + ofF 2) = 2; rw [h.x0]; rfl
theorem s6_4a (h : EI e 4 a5 a10 2 ik oN s) (hb : e.bi = true) (hl : ik < e.L0) : ∃ s', stepG noMem e s = (true, s') /\ EI e 8 a5 (IntKind.u64.wrap (e.inp (e.k0 + ik))) 2 (ik + 1) oN s' := by
  refine ⟨{ s with m := finM s.m (inMore s.m (e.inp (e.k0 + s.ik))) s.m.kn' true, ik := s.ik + 1 }, ?_, h.sz, h.mem, ?_, h.st, rfl, h.x5, ?_, h.x17, by show s.ik + 1 = ik + 1; rw [h.fik], h.foN, h.out⟩
  · rw [go_call h rfl d6_4]
    unfold callR
    rw [h.x17, hb, h.fik, lt_blt hl]
    rfl
  · show IntKind.u64.wrap (s.m.pl + 4) = 8; rw [h.pl]; rfl
  · show IntKind.u64.wrap (e.inp (e.k0 + s.ik)) = _; rw [h.fik]
theorem s6_4b (h : EI e 4 a5 a10 2 ik oN s) (hb : (e.bi && Nat.blt ik e.L0) = false) : ∃ s', stepG noMem e s = (true, s') /\ EI e 8 a5 18446744073709551615 2 ik oN s' := by
  refine ⟨{ s with m := finM s.m (inMax s.m) s.m.kn' true }, ?_, h.sz, h.mem, ?_, h.st, rfl, h.x5, rfl, h.x17, h.fik, h.foN, h.out⟩
  · rw [go_call h rfl d6_4]
    unfold callR
    rw [h.x17, h.fik, hb]
    rfl
  · show IntKind.u64.wrap (s.m.pl + 4) = 8; rw [h.pl]; rfl
theorem s6_8a (h : EI e 8 a5 a10 a17 ik oN s) (h0 : 0 <= a10) (h1 : a10 < 9223372036854775808) : ∃ s', stepG noMem e s = (true, s') /\ EI e 12 a5 a10 a17 ik oN s' := by
  refine ⟨_, go_plain h rfl d6_8 rfl, h.sz, h.mem, ?_, h.st, rfl, h.x5, h.x10, h.x17, h.fik, h.foN, h.out⟩
  show (bif takenF 47 (s.m.x 10) (s.m.x 0) then IntKind.u64.wrap (s.m.pl + ofF 20) else nxt s.m) = 12
  have g : takenF 47 a10 0 = false := by
    show (decide (IntKind.i64.wrap a10 < 0) == true) = false
    rw [wrap_i (by omega) h1]
    simp; omega
  rw [h.x10, h.x0, g]
  show IntKind.u64.wrap (s.m.pl + 4) = 12; rw [h.pl]; rfl
theorem s6_8b (h : EI e 8 a5 18446744073709551615 a17 ik oN s) : ∃ s', stepG noMem e s = (true, s') /\ EI e 28 a5 18446744073709551615 a17 ik oN s' := by
  refine ⟨_, go_plain h rfl d6_8 rfl, h.sz, h.mem, ?_, h.st, rfl, h.x5, h.x10, h.x17, h.fik, h.foN, h.out⟩
  show (bif takenF 47 (s.m.x 10) (s.m.x 0) then IntKind.u64.wrap (s.m.pl + ofF 20) else nxt s.m) = 28
  rw [h.x10, h.x0, h.pl]; rfl
theorem s6_12 (h : EI e 12 a5 a10 a17 ik oN s) : ∃ s', stepG noMem e s = (true, s') /\ EI e 16 a5 a10 1 ik oN s' := by
  refine ⟨_, go_plain h rfl d6_12 rfl, h.sz, h.mem, ?_, h.st, rfl, h.x5, h.x10, ?_, h.fik, h.foN, h.out⟩
  · show IntKind.u64.wrap (s.m.pl + 4) = 16; rw [h.pl]; rfl
  · show IntKind.u64.wrap (s.m.x 0 + ofF 1) = 1; rw [h.x0]; rfl
theorem s6_16 (h : EI e 16 a5 (IntKind.u64.wrap (e.inp (e.k0 + oN))) 1 ik oN s) : ∃ s', stepG noMem e s = (true, s') /\ EI e 20 a5 (IntKind.u64.wrap (e.inp (e.k0 + oN))) 1 ik (oN + 1) s' := by
  refine ⟨{ s with m := finM s.m s.m s.m.kn' true, oN := s.oN + 1, of := outMore s.of s.oN (IntKind.u8.wrap (s.m.x 10)) }, ?_, h.sz, h.mem, ?_, h.st, rfl, h.x5, h.x10, h.x17, h.fik, by show s.oN + 1 = oN + 1; rw [h.foN], ?_⟩
  · rw [go_call h rfl d6_16]
    unfold callR
    rw [h.x17]
    rfl
  · show IntKind.u64.wrap (s.m.pl + 4) = 20; rw [h.pl]; rfl
  · intro j hj
    show (bif Nat.blt j s.oN then s.of j else IntKind.u8.wrap (s.m.x 10)) = _
    rw [h.foN, h.x10]
    by_cases hlt : j < oN
    · rw [lt_blt hlt]; exact h.out j hlt
    · have : j = oN := by omega
      subst this
      have hb0 : Nat.blt j j = false := by rw [blt_dec]; simp
      rw [hb0]; rfl
theorem s6_20 (h : EI e 20 a5 a10 a17 ik oN s) : ∃ s', stepG noMem e s = (true, s') /\ EI e 24 (IntKind.u64.wrap (a5 + 1)) a10 a17 ik oN s' := by
  refine ⟨_, go_plain h rfl d6_20 rfl, h.sz, h.mem, ?_, h.st, rfl, ?_, h.x10, h.x17, h.fik, h.foN, h.out⟩
  · show IntKind.u64.wrap (s.m.pl + 4) = 24; rw [h.pl]; rfl
  · show IntKind.u64.wrap (s.m.x 5 + ofF 1) = _; rw [h.x5]; rfl
theorem s6_24 (h : EI e 24 a5 a10 a17 ik oN s) : ∃ s', stepG noMem e s = (true, s') /\ EI e 0 a5 a10 a17 ik oN s' := by
  refine ⟨_, go_plain h rfl d6_24 rfl, h.sz, h.mem, ?_, h.st, rfl, h.x5, h.x10, h.x17, h.fik, h.foN, h.out⟩
  show IntKind.u64.wrap (s.m.pl + ofF (-24)) = 0; rw [h.pl]; rfl
theorem s6_28 (h : EI e 28 a5 a10 a17 ik oN s) : ∃ s', stepG noMem e s = (true, s') /\ EI e 32 a5 (IntKind.u64.wrap (a5 + 0)) a17 ik oN s' := by
  refine ⟨_, go_plain h rfl d6_28 rfl, h.sz, h.mem, ?_, h.st, rfl, h.x5, ?_, h.x17, h.fik, h.foN, h.out⟩
  · show IntKind.u64.wrap (s.m.pl + 4) = 32; rw [h.pl]; rfl
  · show IntKind.u64.wrap (s.m.x 5 + ofF 0) = _; rw [h.x5]; rfl
theorem s6_32 (h : EI e 32 a5 a10 a17 ik oN s) : ∃ s', stepG noMem e s = (true, s') /\ EI e 36 a5 a10 3 ik oN s' := by
  refine ⟨_, go_plain h rfl d6_32 rfl, h.sz, h.mem, ?_, h.st, rfl, h.x5, h.x10, ?_, h.fik, h.foN, h.out⟩
  · show IntKind.u64.wrap (s.m.pl + 4) = 36; rw [h.pl]; rfl
  · show IntKind.u64.wrap (s.m.x 0 + ofF 3) = 3; rw [h.x0]; rfl
structure EE (e : REnv) (code : Int) (oN : Nat) (s : RSt) : Prop where
  st : s.m.st = 1
  cd : s.m.cd = code
  foN : s.oN = oN
  out : ∀ j, j < oN -> s.of j = IntKind.u8.wrap (IntKind.u64.wrap (e.inp (e.k0 + j)))
theorem s6_36 (h : EI e 36 a5 a10 3 ik oN s) : ∃ s', stepG noMem e s = (true, s') /\ EE e (IntKind.u8.wrap a10) oN s' := by
  refine ⟨{ s with m := finM s.m (endM s.m) s.m.kn' true }, ?_, ?_, ?_, h.foN, h.out⟩
  · rw [go_call h rfl d6_36]
    unfold callR
    rw [h.x17]
    rfl
  · show (bif s.m.x 17 == 3 then (1 : Int) else _) = 1
    rw [h.x17]; rfl
  · show (bif s.m.x 17 == 3 then IntKind.u8.wrap (s.m.x 10) else s.m.cd) = _
    rw [h.x17, h.x10]; rfl
end
end Go.X
namespace Go.X
open Go Go.Proofs
structure In6 (e : REnv) : Prop where
  byte : ∀ j, j < e.L0 -> 0 <= e.inp (e.k0 + j) /\ e.inp (e.k0 + j) < 256
  nil : e.bi = false -> e.L0 = 0
abbrev in6 (e : REnv) (i : Nat) : Int := IntKind.u64.wrap (e.inp (e.k0 + i))
inductive R6 (e : REnv) : RSt -> Prop
  | p0 {s} (i : Nat) (a10 a17 : Int) (hi : i <= e.L0) (h : EI e 0 i a10 a17 i i s) : R6 e s
  | p4 {s} (i : Nat) (a10 : Int) (hi : i <= e.L0) (h : EI e 4 i a10 2 i i s) : R6 e s
  | p8 {s} (i : Nat) (hi : i < e.L0) (h : EI e 8 i (in6 e i) 2 (i + 1) i s) : R6 e s
  | q8 {s} (i : Nat) (hi : i <= e.L0) (h : EI e 8 i 18446744073709551615 2 i i s) : R6 e s
  | p12 {s} (i : Nat) (hi : i < e.L0) (h : EI e 12 i (in6 e i) 2 (i + 1) i s) : R6 e s
  | p16 {s} (i : Nat) (hi : i < e.L0) (h : EI e 16 i (in6 e i) 1 (i + 1) i s) : R6 e s
  | p20 {s} (i : Nat) (hi : i < e.L0) (h : EI e 20 i (in6 e i) 1 (i + 1) (i + 1) s) : R6 e s
  | p24 {s} (i : Nat) (hi : i < e.L0) (h : EI e 24 ((i + 1 : Nat) : Int) (in6 e i) 1 (i + 1) (i + 1) s) : R6 e s
  | p28 {s} (i : Nat) (hi : i <= e.L0) (h : EI e 28 i 18446744073709551615 2 i i s) : R6 e s
  | p32 {s} (i : Nat) (hi : i <= e.L0) (h : EI e 32 i (i : Int) 2 i i s) : R6 e s
  | p36 {s} (i : Nat) (hi : i <= e.L0) (h : EI e 36 i (i : Int) 3 i i s) : R6 e s
  | fin {s} (i : Nat) (c : Int) (h : EE e c i s) : R6 e s
section
variable {e : REnv} (hin : In6 e) (hL : e.L0 <= 200)
theorem wrap_nat {i : Nat} (h : i <= 300) : IntKind.u64.wrap ((i : Int) + 1) = ((i + 1 : Nat) : Int) := by rw [u64_id (by omega) (by omega)]; omega
include hin in
theorem in6_rng {i : Nat} (hi : i < e.L0) : 0 <= in6 e i /\ in6 e i < 256 := by
  have := hin.byte i hi
  unfold in6
  rw [u64_id (by omega) (by omega)]; exact this
include hin hL in
theorem R6.step {s : RSt} (h : R6 e s) (h0 : s.m.st = 0) : ∃ s', stepG noMem e s = (true, s') /\ R6 e s' := by
  cases h with
  | p0 i a10 a17 hi h => obtain ⟨s', a, b⟩ := s6_0 h; exact ⟨s', a, .p4 i _ hi b⟩
  | p4 i a10 hi h =>
    by_cases hl : i < e.L0
    · have hb : e.bi = true := by
        cases hx : e.bi with
        | true => rfl
        | false => have := hin.nil hx; omega
      obtain ⟨s', a, b⟩ := s6_4a h hb hl
      exact ⟨s', a, .p8 i hl b⟩
    · have hb : (e.bi && Nat.blt i e.L0) = false := by
        have : Nat.blt i e.L0 = false := by rw [blt_dec]; simp; omega
        rw [this, Bool.and_false]
      obtain ⟨s', a, b⟩ := s6_4b h hb
      exact ⟨s', a, .q8 i hi b⟩
  | p8 i hi h =>
    have := in6_rng hin hi
    obtain ⟨s', a, b⟩ := s6_8a h (by omega) (by omega); exact ⟨s', a, .p12 i hi b⟩
  | q8 i hi h => obtain ⟨s', a, b⟩ := s6_8b h; exact ⟨s', a, .p28 i hi b⟩
  | p12 i hi h => obtain ⟨s', a, b⟩ := s6_12 h; exact ⟨s', a, .p16 i hi b⟩
  | p16 i hi h => obtain ⟨s', a, b⟩ := s6_16 h; exact ⟨s', a, .p20 i hi b⟩
  | p20 i hi h =>
    obtain ⟨s', a, b⟩ := s6_20 h
    rw [wrap_nat (by omega)] at b
    exact ⟨s', a, .p24 i hi b⟩
  | p24 i hi h => obtain ⟨s', a, b⟩ := s6_24 h; exact ⟨s', a, .p0 (i + 1) _ _ hi b⟩
  | p28 i hi h =>
    obtain ⟨s', a, b⟩ := s6_28 h
    rw [u64_id (x := (i : Int) + 0) (by omega) (by omega), Int.add_zero] at b
    exact ⟨s', a, .p32 i hi b⟩
  | p32 i hi h => obtain ⟨s', a, b⟩ := s6_32 h; exact ⟨s', a, .p36 i hi b⟩
  | p36 i hi h => obtain ⟨s', a, b⟩ := s6_36 h; exact ⟨s', a, .fin i _ b⟩
  | fin i c h => rw [h.st] at h0; cases h0
end
end Go.X
namespace Go.X
open Go Go.Proofs
def con20b : Con Try.prog where
  f := 20
  run := fun vs _ n => match vs with
    | [.int .u32 w] => some ([], (decA w).v, [(n, some (decA w).b)], 1, decB w)
    | _ => none
  ok := fun vs h n pre v upd news hx => by
    split at hx
    · rename_i w
      simp only [Option.some.injEq, Prod.mk.injEq] at hx
      obtain ⟨rfl, rfl, rfl, rfl, hu⟩ := hx
      exact ⟨fun id hid => by simp [fstL] at hid, c20 w (decU_of hu) n⟩
    · cases hx
abbrev sc21 : Short := scOf [con20b]
theorem FOK21 : FnsOK Try.prog (lookF FL) sc21 := fok FOK _
theorem p21 : execC (lookF FL) sc21 100000 x21 (argTm 0 []) [] 100 (valK [0]) = some [.bool true] := by kernel_rfl
end Go.X
namespace Go.X
open Go Go.Proofs
def c21g : List Value -> Option Value
  | [] => some (.bool true)
  | _ => none
def con21 : Con Try.prog := pureC 21 c21g fun vs v n h => by
  unfold c21g at h
  split at h
  · cases h; exact adet_tree FOK21 100000 fx21 (by simp) [0] p21 rfl rfl rfl rfl n
  · cases h
abbrev sc6 : Short := scOf [con21]
def exI (bi : Bool) (b : Blk) : List (Nat × Blk) := bif bi then [(40, b)] else []
end Go.X
namespace Go.X
open Go Go.Proofs
attribute [local congr] cond_ctx
section
variable (bi : Bool) (k L C T : Nat) (inp : Nat -> Int)
end
end Go.X
namespace Go.X
open Go Go.Proofs
section
variable (bi : Bool) (k L C T : Nat) (inp : Nat -> Int)
end
end Go.X
namespace Go.X
open Go Go.Proofs
def Ins.v (i : Ins) : Value := i18 i.op i.rd i.rs1 i.rs2 i.imm
end Go.X
namespace Go.X
open Go Go.Proofs
section
variable (E : Ins -> Int × Int) (N C T i : Nat) (J : Nat -> Ins) (oN : Nat) (of : Nat -> Int)
end
def byteOf (w : Int) : Nat -> Int
  | 0 => IntKind.u8.wrap w
  | 1 => IntKind.u8.wrap (w.fdiv 256)
  | 2 => IntKind.u8.wrap (w.fdiv 65536)
  | _ => IntKind.u8.wrap (w.fdiv 16777216)
end Go.X
namespace Go.X
open Go Go.Proofs
end Go.X
namespace Go.X
open Go Go.Proofs
end Go.X
namespace Go.X
open Go Go.Proofs
def newM (k L : Nat) (inp : Nat -> Int) (sz : Nat) : MS := ⟨sz, fun j => bif Nat.blt j L then inp (k + j) else 0, fun _ => 0, 0, 0, 0, ⟨0, fun _ => false⟩⟩
def MS.mAt (m : MS) (a b : Nat) : Blk := .var ([.slice (some ⟨a, 0, none⟩) m.sz m.sz] ++ regs m.x ++ [.int .u64 m.pl, .int .i64 m.st, .int .u8 m.cd, .map (some b)])
def exJ' (bi : Bool) : List Nat := bif bi then [40] else []
def mem22 (bi : Bool) (k L : Nat) (inp : Nat -> Int) (sz : Nat) : Blk := .rows sz 1 (rowPut (fun _ => [.int .u8 0]) 0 (min (bif bi then L else 0) sz) (fun j => bif bi then [.int .u8 (inp (k + j))] else [])) false false
def old22 : Blk := .map 35 26 0 (fun _ => false) (fun _ => i18 0 0 0 0 0)
theorem p22 (bi : Bool) (k L C T : Nat) (sz : Nat) (inp : Nat -> Int) (hL : bi = false -> L = 0) (h1 : L <= sz) (h2 : sz <= 4194304) (hT : bi = true -> k + L <= T) :
    walk (lookF FL) noSc 1000 x22 (argTm 0 [vI bi k L C, .int .i64 (sz : Int)]) (mkH (exI bi (inB T inp))) 100 ⟨[], [], [], []⟩ ⟨[4, 5], [.id 100, .id 101, .id 102], [], exJ' bi⟩ ⟨[], [], [], []⟩ =
      some ⟨⟨[some (true, .pointer (some ⟨102, 0, some 0⟩)), some (true, .int .i64 0)], [(100, some (mem22 bi k L inp sz)), (101, some old22), (102, some ((newM k L inp sz).mAt 100 101))], .ret, 103⟩, none⟩ := by
  cases bi with
  | false =>
    have hL0 := hL rfl
    subst hL0
    have e : walk (lookF FL) noSc 1000 x22 (argTm 0 [vI false k 0 C, .int .i64 (sz : Int)]) (mkH (exI false (inB T inp))) 100 ⟨[], [], [], []⟩ ⟨[4, 5], [.id 100, .id 101, .id 102], [], exJ' false⟩ ⟨[], [], [], []⟩ =
      bif bif decide ((sz : Int) < 0) then true else decide ((sz : Int) > 4194304) then some ⟨⟨[some (true, .pointer none), some (true, .int .i64 1)], [(100, none), (101, none), (102, none)], .ret, 100⟩, none⟩
        else bif decide (0 <= (sz : Int)) && decide ((sz : Int) <= (sz : Int)) && decide ((sz : Int) * 3 <= 1099511627776) && true && true then bif (0 + sz).ble sz && true && true then
          some ⟨⟨[some (true, .pointer (some ⟨102, 0, some 0⟩)), some (true, .int .i64 0)], [(100, some (mem22 false k 0 inp sz)), (101, some old22), (102, some ((newM k 0 inp sz).mAt 100 101))], .ret, 103⟩, none⟩ else none else none := by kernel_rfl
    rw [e]
    simp only [decide_eq_false (show ¬ (sz : Int) < 0 by omega), decide_eq_false (show ¬ (sz : Int) > 4194304 by omega), decide_eq_true (show 0 <= (sz : Int) by omega), decide_eq_true (Int.le_refl (sz : Int)), decide_eq_true (show (sz : Int) * 3 <= 1099511627776 by omega), Nat.zero_add, show sz.ble sz = true by simp]
    rfl
  | true =>
    have e : walk (lookF FL) noSc 1000 x22 (argTm 0 [vI true k L C, .int .i64 (sz : Int)]) (mkH (exI true (inB T inp))) 100 ⟨[], [], [], []⟩ ⟨[4, 5], [.id 100, .id 101, .id 102], [], exJ' true⟩ ⟨[], [], [], []⟩ =
      bif ((!decide ((sz : Int) < (L : Int)) || decide ((sz : Int) < (L : Int))) && true || false) && ((!decide ((sz : Int) < (L : Int)) && true || !!decide ((sz : Int) < (L : Int))) && true) then bif bif decide ((sz : Int) < (L : Int)) then true else decide ((sz : Int) > 4194304) then some ⟨⟨[some (true, .pointer none), some (true, .int .i64 1)], [(100, none), (101, none), (102, none)], .ret, 100⟩, none⟩
        else bif decide (0 <= (sz : Int)) && decide ((sz : Int) <= (sz : Int)) && decide ((sz : Int) * 3 <= 1099511627776) && true && true then bif (k + L).ble T && true && (0 + sz).ble sz && true && true then
          some ⟨⟨[some (true, .pointer (some ⟨102, 0, some 0⟩)), some (true, .int .i64 0)], [(100, some (mem22 true k L inp sz)), (101, some old22), (102, some ((newM k L inp sz).mAt 100 101))], .ret, 103⟩, none⟩ else none else none else none := by kernel_rfl
    rw [e]
    simp only [decide_eq_false (show ¬ (sz : Int) < (L : Int) by omega), decide_eq_false (show ¬ (sz : Int) > 4194304 by omega), decide_eq_true (show 0 <= (sz : Int) by omega), decide_eq_true (Int.le_refl (sz : Int)), decide_eq_true (show (sz : Int) * 3 <= 1099511627776 by omega), Nat.zero_add, show sz.ble sz = true by simp, show (k + L).ble T = true by rw [ble_dec]; simp; exact hT rfl]
    rfl
theorem bis_mem22 {P : Program} {σ : Nm} {bi : Bool} {k L : Nat} {inp : Nat -> Int} {sz : Nat} (hL : bi = false -> L = 0) (h1 : L <= sz) : BIs P σ (newM k L inp sz).memB (mem22 bi k L inp sz) := by
  refine ⟨rfl, rfl, fun j hj => ?_, by first | exact .inl rfl | exact .inr rfl | exact .inr (.inl rfl), by first | exact .inl rfl | exact .inr rfl⟩
  show rnL _ [.int .u8 (bif Nat.blt j L then inp (k + j) else 0)] = cond (Nat.ble 0 j && Nat.blt j (0 + min (bif bi then L else 0) sz)) (bif bi then [.int .u8 (inp (k + (j - 0)))] else []) [.int .u8 0]
  have h0 : Nat.ble 0 j = true := by simp
  rw [h0, Bool.true_and, Nat.zero_add, Nat.sub_zero]
  cases bi with
  | false =>
    have := hL rfl
    subst this
    have : Nat.blt j 0 = false := by rw [blt_dec]; simp
    rw [this, cond_false, cond_false]; simp only [Nat.zero_min, this, cond_false]; rfl
  | true =>
    rw [cond_true, Nat.min_eq_left h1, cond_true]
    cases Nat.blt j L <;> rfl
theorem bis_old {P : Program} {σ : Nm} {k L : Nat} {inp : Nat -> Int} {sz : Nat} : BIs P σ (newM k L inp sz).kn.blk old22 := ⟨rfl, rfl, rfl, fun d q _ _ => ⟨rfl, rfl⟩⟩
theorem bis_mAt {P : Program} {σ : Nm} {m : MS} {a b a' b' : Nat} (ha : σ a = some a') (hb : σ b = some b') : BIs P σ (m.mAt a b) (m.mAt a' b') := by
  show ren σ 4 (.slice (some ⟨a, 0, none⟩) m.sz m.sz) :: (rnL σ (regs m.x ++ [.int .u64 m.pl, .int .i64 m.st, .int .u8 m.cd]) ++ [ren σ 4 (.map (some b))]) = _
  simp only [ren, renP, ha, hb]
  rfl
def upd22 (m : MS) : Hp := mkH [(100, m.memB), (101, m.kn.blk), (102, m.mAt 100 101)]
theorem b22 {bi : Bool} {k L C T sz : Nat} {inp : Nat -> Int} (hL : bi = false -> L = 0) (h1 : L <= sz) (h2 : sz <= 4194304) (hT : bi = true -> k + L <= T) :
    Body Try.prog 22 [vI bi k L C, .int .i64 (sz : Int)] (mkH (exI bi (inB T inp))) (.tuple ⟨[.pointer (some ⟨102, 0, some 0⟩), .int .i64 0]⟩) (upd22 (newM k L inp sz)) 100 3 := by
  have e := p22 bi k L C T sz inp hL h1 h2 hT
  refine body_walk FOK fx22 (by simp) e rfl ⟨mkT [4, 5] [.pointer (some ⟨102, 0, some 0⟩), .int .i64 0], upd22 (newM k L inp sz) ++ mkH (exI bi (inB T inp)), 103⟩ (fun ρ w hd => ⟨[.pointer (some ⟨102, 0, some 0⟩), .int .i64 0], (100, (newM k L inp sz).memB) :: (101, (newM k L inp sz).kn.blk) :: (102, (newM k L inp sz).mAt 100 101) :: exI bi (inB T inp), 103, ?_, ?_, ?_, ?_⟩) ?_ rfl ?_
  · cases bi <;> rfl
  · cases bi <;> rfl
  · cases bi <;> exact ⟨rfl, rfl, trivial⟩
  · cases bi
    · exact ⟨bis_mem22 hL h1, bis_old, bis_mAt rfl rfl, trivial⟩
    · exact ⟨bis_mem22 hL h1, bis_old, bis_mAt rfl rfl, bis_inB, trivial⟩
  · cases bi
    · exact ⟨rfl, rfl, rfl, trivial⟩
    · exact ⟨rfl, rfl, rfl, rfl, trivial⟩
  · cases bi <;> rfl
end Go.X
namespace Go.X
open Go Go.Proofs
section
variable (n o : Int) (i N : Nat) (f : Nat -> List Value)
end
end Go.X
namespace Go.X
open Go Go.Proofs
def word7 (r : Int) (q : Nat) : Int := bif q % 2 == 0 then 1048595 else 2097171 + 128 * r
structure R7 (N : Nat) (r : Int) (q : Nat) (s : RSt) : Prop where
  sz : s.m.sz = 4 * N + 8
  mem : ∀ i t, i < N -> t < 4 -> s.m.mem (4 * i + t) = byteOf (word7 r i) t
  pl : s.m.pl = 4 * (q : Int)
  st : s.m.st = 0
  x0 : s.m.x 0 = 0
  mark : s.mark = ((q + 1) / 2 : Nat)
  fo : s.oN = 0
section
variable {N : Nat} {r : Int} (hN : N <= 510) (h0 : 0 <= r) (h1 : r < 32)
end
end Go.X
namespace Go.X
open Go Go.Proofs
def vM3 (a : Nat) : Value := .tuple ⟨[.pointer (some ⟨a, 0, some 0⟩), .int .i64 0]⟩
end Go.X
namespace Go.X
open Go Go.Proofs
end Go.X
namespace Go.X
open Go Go.Proofs
end Go.X
namespace Go.X
open Go Go.Proofs
end Go.X
namespace Go.X
open Go Go.Proofs
structure OKM (m : MS) : Prop where
  sz : szB m.sz = true
  pl : uB m.pl = true
  x : ∀ j, uB (m.x j) = true
  kn : m.kn.OK
section
variable (m0 m : MS) (mk : Int) (tk : Bool)
end
end Go.X
namespace Go.X
open Go Go.Proofs
def e0 (wt : Bool) : REnv := ⟨false, 0, fun _ => 0, 0, 0, 0, wt⟩
theorem base0 {wt : Bool} {m : MS} (h : OKM m) : BaseOK (e0 wt) 0 (RSt.init m) /\ (RSt.init m).sN <= 0 := ⟨⟨h.sz, h.pl, h.x, h.kn, fun j hj => absurd hj (Nat.not_lt_zero _), Nat.le_refl _, Nat.le_refl _, Nat.le_refl _, Nat.le_refl _⟩, Nat.le_refl _⟩
def runM (wt : Bool) (m : MS) (fuel : Nat) : RSt × Nat := runF (stepF (e0 wt)) fuel (RSt.init m) 0
theorem runF_le {step : RSt -> Bool × RSt} : ∀ (k n : Nat) (s : RSt), (runF step k s n).2 <= n + k
  | 0, n, s => Nat.le_refl _
  | k + 1, n, s => by
    unfold runF
    cases s.m.st == 0 with
    | false => exact Nat.le_add_right _ _
    | true =>
      simp only [cond_true]
      cases (step s).1 with
      | false => exact Nat.le_add_right _ _
      | true => have := runF_le (step := step) k (n + 1) (step s).2; simp only [cond_true]; omega
theorem runM_ok {wt : Bool} {m : MS} (h : OKM m) {fuel : Nat} (hf : fuel <= 1000000000) : OKM (runM wt m fuel).1.m /\ SeOK (runM wt m fuel).1.sN (runM wt m fuel).1.sf := by
  have H := steps_all (e0 wt) (fuel := (fuel : Int)) (by omega)
  rcases run_ok H fuel 0 (RSt.init m) (by omega) (base0 h) with ⟨n', hb, _⟩ | ⟨n', s1, ⟨hb, _⟩, e⟩
  · exact ⟨⟨hb.sz, hb.pl, hb.x, hb.kn⟩, hb.se⟩
  · unfold runM; rw [e]; exact ⟨⟨hb.sz, hb.pl, hb.x, hb.kn⟩, hb.se⟩
def inb0 : Blk := inB 0 fun _ => 0
theorem run48 (wt : Bool) {m : MS} (h : OKM m) {fuel : Nat} (hf : fuel <= 1000000000) {s : RSt} {n : Nat} (hr : runM wt m fuel = (s, n)) :
    Body Try.prog 48 [pM, vI false 0 0 0, .int .i64 (fuel : Int), .bool wt] (mkH (pre48 m false inb0)) (val48 s.m (bO s.oN) (bO s.sN) s.oN s.sN n s.mark) (upd48 s.m (bO s.oN) (bO s.sN) s.oN s.of s.sN s.sf n s.mark) 100 4 :=
  b48 (e0 wt) (fuel := (fuel : Int)) (by omega) (steps_all (e0 wt) (by omega)) (by omega) m (base0 h) hr
theorem run24 {m : MS} (h : OKM m) {fuel : Nat} (hf : fuel <= 1000000000) {s : RSt} {n : Nat} (hr : runM false m fuel = (s, n)) :
    Body Try.prog 24 [pM, .slice none 0 0, .int .i64 (fuel : Int)] (mkH m.H) (resV24 s.m (vO (bO s.oN) s.oN) n s.mark) (upd24 s.m (bO s.oN) s.oN s.of n s.mark) 100 2 := by
  have hse := (runM_ok (wt := false) h hf).2
  rw [hr] at hse
  exact b24 (bi := false) (k := 0) (L := 0) (C := 0) (T := 0) (inp := fun _ => 0) hse (run48 false h hf hr)
theorem run27 {m : MS} (h : OKM m) {fuel : Nat} (hf : fuel <= 1000000000) {s : RSt} {n : Nat} (hr : runM true m fuel = (s, n)) :
    Body Try.prog 27 [pM, .slice none 0 0, .int .i64 (fuel : Int)] (mkH m.H) (.tuple ⟨[resV24 s.m (vO (bO s.oN) s.oN) n s.mark, vW (bO s.sN) s.sN]⟩) (upd27 s.m (bO s.oN) (bO s.sN) s.oN s.of s.sN s.sf n s.mark) 100 3 := by
  have hse := (runM_ok (wt := true) h hf).2
  rw [hr] at hse
  exact b27 (bi := false) (k := 0) (L := 0) (C := 0) (T := 0) (inp := fun _ => 0) hse (run48 true h hf hr)
end Go.X
namespace Go.X
open Go Go.Proofs
end Go.X
namespace Go.X
open Go Go.Proofs
def inK (k : Int) : Bool := bif decide (k > 0) then decide (k < 32) else false
def setM (m : MS) (k v : Int) : MS := bif inK k then { m with x := fun j => bif Nat.beq (j + 1) (1 + k.toNat * 1) then v else m.x j } else m
theorem p26 (m : MS) (k x : Int) : walk (lookF FL) noSc 1000 x26 (argTm 0 [pM, .int .i64 k, .int .u64 x]) (mkH [(92, m.mB)]) 100 ⟨[], [.id 92], [], []⟩ ⟨[], [.id 92], [], []⟩ ⟨[], [], [], []⟩ =
    bif ((decide (k > 0) || !decide (k > 0)) && true || false) && ((decide (k > 0) && true || !decide (k > 0)) && true) then bif inK k then
      bif (1 + k.toNat * 1).blt m.cells.length && updOK (1 + k.toNat * 1) (.int .u64 x) 0 m.cells && true && ((intRange k 32 && true || false) && true) then some ⟨⟨[], [(92, some (putX m k x).mB)], .normal, 100⟩, none⟩ else none
      else some ⟨⟨[], [(92, some m.mB)], .normal, 100⟩, none⟩ else none := by kernel_rfl
theorem b26 (m : MS) (k x : Int) : Body Try.prog 26 [pM, .int .i64 k, .int .u64 x] (mkH [(92, m.mB)]) (.tuple ⟨[]⟩) (mkH [(92, (setM m k x).mB)]) 100 0 := by
  have e := p26 m k x
  have g : (((decide (k > 0) || !decide (k > 0)) && true || false) && ((decide (k > 0) && true || !decide (k > 0)) && true)) = true := by cases decide (k > 0) <;> rfl
  rw [g, cond_true] at e
  unfold setM
  cases hk : inK k with
  | false =>
    rw [hk, cond_false] at e
    exact body_walk FOK fx26 (by simp) e rfl ⟨mkT [] [], mkH [(92, m.mB)], 100⟩ (fun ρ w hd => ⟨_, _, _, rfl, rfl, trivial, rfl, trivial⟩) ⟨rfl, trivial, trivial⟩ rfl rfl
  | true =>
    have hr : inR k := by
      unfold inK at hk
      unfold inR
      cases h0 : decide (k > 0) with
      | false => rw [h0] at hk; cases hk
      | true =>
        rw [h0, cond_true] at hk
        simp only [decide_eq_true_eq] at h0 hk
        omega
    obtain ⟨a1, a2, a3, a4⟩ := reg_ok m hr
    rw [hk, cond_true, a1, a3, upd_ok m hr] at e
    simp only [Bool.and_self, Bool.or_false, cond_true] at e
    have hp : (putX m k x).mB = ({ m with x := fun j => bif Nat.beq (j + 1) (1 + k.toNat * 1) then x else m.x j } : MS).mB := by
      have := putX_pl m hr x
      show Blk.var _ = Blk.var _
      have h2 : (putX m k x) = { m with x := fun j => bif Nat.beq (j + 1) (1 + k.toNat * 1) then x else m.x j } := by
        unfold putX at this ⊢
        simp only at this
        rw [this]
      rw [h2]
    rw [hp] at e
    exact body_walk FOK fx26 (by simp) e rfl ⟨mkT [] [], mkH [(92, ({ m with x := fun j => bif Nat.beq (j + 1) (1 + k.toNat * 1) then x else m.x j } : MS).mB)], 100⟩ (fun ρ w hd => ⟨_, _, _, rfl, rfl, trivial, rfl, trivial⟩) ⟨rfl, trivial, trivial⟩ rfl rfl
end Go.X
namespace Go.X
open Go Go.Proofs
abbrev pAt (c : Nat) : Value := .pointer (some ⟨c, 0, some 0⟩)
def MS.HA (m : MS) (a b c : Nat) : List (Nat × Blk) := [(a, m.memB), (b, m.kn.blk), (c, m.mAt a b)]
def upd24g (a b c : Nat) (m : MS) (bo : Bool) (oN : Nat) (of : Nat -> Int) (n mk : Int) : Hp := mkH ([(130, resB m (vOa 131 bo oN) n mk), (a, m.memB), (b, m.kn.blk), (c, m.mAt a b)] ++ extN 131 132 bo false (outB oN of) (outB oN of))
def upd27g (a b c : Nat) (m : MS) (bo bs : Bool) (oN : Nat) (of : Nat -> Int) (sN : Nat) (sf : Nat -> List Value) (n mk : Int) : Hp := mkH ([(130, resB m (vOa 131 bo oN) n mk), (a, m.memB), (b, m.kn.blk), (c, m.mAt a b)] ++ extN 131 132 bo bs (outB oN of) (seB sN sf))
theorem bis_resO {P : Program} {σ : Nm} {m : MS} {bo : Bool} {oN : Nat} {n mk : Int} {a b : Nat} (h : bo = true -> σ a = some b) : BIs P σ (resB m (vOa a bo oN) n mk) (resB m (vOa b bo oN) n mk) := by
  show [_, _, _, ren σ 4 (vOa a bo oN), _, _] = _
  have : ren σ 4 (vOa a bo oN) = vOa b bo oN := by
    cases bo with
    | false => rfl
    | true => simp only [vOa, cond_true, ren, renP, h rfl]
  rw [this]; rfl
theorem c26_0 (m : MS) (k x : Int) (n : Nat) : ADet Try.prog 26 [pAt 92, .int .i64 k, .int .u64 x] (mkH [(92, m.mAt 90 91)]) (.tuple ⟨[]⟩) (mkH [(92, (setM m k x).mAt 90 91)]) n 0 :=
  adet_of_body (b26 m k x) [(90, 90), (91, 91), (92, 92)] [] rfl rfl ⟨bis_mAt (a := 90) (b := 91) rfl rfl, trivial⟩ rfl rfl ⟨bis_mAt rfl rfl, trivial, trivial⟩ rfl
noncomputable def con26_0 (m : MS) : Con Try.prog where
  f := 26
  run := fun vs h n => match vs with
    | [.pointer (some ⟨92, 0, some 0⟩), .int .i64 k, .int .u64 x] => some (mkH [(92, m.mAt 90 91)], .tuple ⟨[]⟩, mkH [(92, (setM m k x).mAt 90 91)], 0, decP (Has h [(92, m.mAt 90 91)]))
    | _ => none
  ok := fun vs h n pre v upd news hx => by
    split at hx
    · simp only [Option.some.injEq, Prod.mk.injEq] at hx
      obtain ⟨rfl, rfl, rfl, rfl, hA⟩ := hx
      exact ⟨has_pre (of_decP hA) rfl, c26_0 m _ _ n⟩
    · cases hx
theorem c24_0 {m : MS} (h : OKM m) {fuel : Nat} (hf : fuel <= 1000000000) {s : RSt} {n : Nat} (hr : runM false m fuel = (s, n)) :
    AtN 24 [pAt 92, .slice none 0 0, .int .i64 (fuel : Int)] (m.HA 90 91 92) (resV24 s.m (vOa 131 (bO s.oN) s.oN) n s.mark) (upd24g 90 91 92 s.m (bO s.oN) s.oN s.of n s.mark) 130 2 := by
  have hb := run24 h hf hr
  cases hbo : bO s.oN with
  | false =>
    rw [hbo] at hb
    exact ⟨rfl, adet_of_body hb [(90, 90), (91, 91), (92, 92)] [(130, 100), (131, 101)] rfl rfl ⟨bis_mem, bis_kn, bis_mAt (a := 90) (b := 91) rfl rfl, trivial⟩ rfl rfl ⟨rfl, bis_mem, bis_kn, bis_mAt rfl rfl, trivial, trivial, trivial, trivial⟩ rfl⟩
  | true =>
    rw [hbo] at hb
    exact ⟨rfl, adet_of_body hb [(90, 90), (91, 91), (92, 92)] [(130, 100), (131, 101)] rfl rfl ⟨bis_mem, bis_kn, bis_mAt (a := 90) (b := 91) rfl rfl, trivial⟩ rfl rfl ⟨bis_resO (fun _ => rfl), bis_mem, bis_kn, bis_mAt rfl rfl, bis_outB, trivial, trivial, trivial, trivial⟩ rfl⟩
theorem c26_1 (m : MS) (k x : Int) (n : Nat) : ADet Try.prog 26 [pAt 95, .int .i64 k, .int .u64 x] (mkH [(95, m.mAt 93 94)]) (.tuple ⟨[]⟩) (mkH [(95, (setM m k x).mAt 93 94)]) n 0 :=
  adet_of_body (b26 m k x) [(90, 93), (91, 94), (92, 95)] [] rfl rfl ⟨bis_mAt (a := 90) (b := 91) rfl rfl, trivial⟩ rfl rfl ⟨bis_mAt rfl rfl, trivial, trivial⟩ rfl
noncomputable def con26_1 (m : MS) : Con Try.prog where
  f := 26
  run := fun vs h n => match vs with
    | [.pointer (some ⟨95, 0, some 0⟩), .int .i64 k, .int .u64 x] => some (mkH [(95, m.mAt 93 94)], .tuple ⟨[]⟩, mkH [(95, (setM m k x).mAt 93 94)], 0, decP (Has h [(95, m.mAt 93 94)]))
    | _ => none
  ok := fun vs h n pre v upd news hx => by
    split at hx
    · simp only [Option.some.injEq, Prod.mk.injEq] at hx
      obtain ⟨rfl, rfl, rfl, rfl, hA⟩ := hx
      exact ⟨has_pre (of_decP hA) rfl, c26_1 m _ _ n⟩
    · cases hx
theorem c27_1 {m : MS} (h : OKM m) {fuel : Nat} (hf : fuel <= 1000000000) {s : RSt} {n : Nat} (hr : runM true m fuel = (s, n)) :
    AtN 27 [pAt 95, .slice none 0 0, .int .i64 (fuel : Int)] (m.HA 93 94 95) (.tuple ⟨[resV24 s.m (vOa 131 (bO s.oN) s.oN) n s.mark, vOa 132 (bO s.sN) s.sN]⟩) (upd27g 93 94 95 s.m (bO s.oN) (bO s.sN) s.oN s.of s.sN s.sf n s.mark) 130 3 := by
  have hb := run27 h hf hr
  have hse := (runM_ok (wt := true) h hf).2
  rw [hr] at hse
  have hs : ∀ {σ : Nm}, BIs Try.prog σ (seB s.sN s.sf) (seB s.sN s.sf) := bis_seB fun j hj => hse j hj _
  refine ⟨rfl, adet_of_body hb [(90, 93), (91, 94), (92, 95)] [(130, 100), (131, 101), (132, 102)] ?_ rfl ⟨bis_mem, bis_kn, bis_mAt (a := 90) (b := 91) rfl rfl, trivial⟩ rfl ?_ ?_ ?_⟩
  · cases bO s.oN <;> cases bO s.sN <;> rfl
  · cases bO s.oN <;> cases bO s.sN <;> rfl
  · cases bO s.oN <;> cases bO s.sN
    · exact ⟨rfl, bis_mem, bis_kn, bis_mAt rfl rfl, trivial, trivial, trivial, trivial⟩
    · exact ⟨rfl, bis_mem, bis_kn, bis_mAt rfl rfl, hs, trivial, trivial, trivial, trivial⟩
    · exact ⟨bis_resO (fun _ => rfl), bis_mem, bis_kn, bis_mAt rfl rfl, bis_outB, trivial, trivial, trivial, trivial⟩
    · exact ⟨bis_resO (fun _ => rfl), bis_mem, bis_kn, bis_mAt rfl rfl, bis_outB, hs, trivial, trivial, trivial, trivial⟩
  · cases bO s.oN <;> cases bO s.sN <;> rfl
theorem c26_2 (m : MS) (k x : Int) (n : Nat) : ADet Try.prog 26 [pAt 98, .int .i64 k, .int .u64 x] (mkH [(98, m.mAt 96 97)]) (.tuple ⟨[]⟩) (mkH [(98, (setM m k x).mAt 96 97)]) n 0 :=
  adet_of_body (b26 m k x) [(90, 96), (91, 97), (92, 98)] [] rfl rfl ⟨bis_mAt (a := 90) (b := 91) rfl rfl, trivial⟩ rfl rfl ⟨bis_mAt rfl rfl, trivial, trivial⟩ rfl
noncomputable def con26_2 (m : MS) : Con Try.prog where
  f := 26
  run := fun vs h n => match vs with
    | [.pointer (some ⟨98, 0, some 0⟩), .int .i64 k, .int .u64 x] => some (mkH [(98, m.mAt 96 97)], .tuple ⟨[]⟩, mkH [(98, (setM m k x).mAt 96 97)], 0, decP (Has h [(98, m.mAt 96 97)]))
    | _ => none
  ok := fun vs h n pre v upd news hx => by
    split at hx
    · simp only [Option.some.injEq, Prod.mk.injEq] at hx
      obtain ⟨rfl, rfl, rfl, rfl, hA⟩ := hx
      exact ⟨has_pre (of_decP hA) rfl, c26_2 m _ _ n⟩
    · cases hx
theorem c27_2 {m : MS} (h : OKM m) {fuel : Nat} (hf : fuel <= 1000000000) {s : RSt} {n : Nat} (hr : runM true m fuel = (s, n)) :
    AtN 27 [pAt 98, .slice none 0 0, .int .i64 (fuel : Int)] (m.HA 96 97 98) (.tuple ⟨[resV24 s.m (vOa 131 (bO s.oN) s.oN) n s.mark, vOa 132 (bO s.sN) s.sN]⟩) (upd27g 96 97 98 s.m (bO s.oN) (bO s.sN) s.oN s.of s.sN s.sf n s.mark) 130 3 := by
  have hb := run27 h hf hr
  have hse := (runM_ok (wt := true) h hf).2
  rw [hr] at hse
  have hs : ∀ {σ : Nm}, BIs Try.prog σ (seB s.sN s.sf) (seB s.sN s.sf) := bis_seB fun j hj => hse j hj _
  refine ⟨rfl, adet_of_body hb [(90, 96), (91, 97), (92, 98)] [(130, 100), (131, 101), (132, 102)] ?_ rfl ⟨bis_mem, bis_kn, bis_mAt (a := 90) (b := 91) rfl rfl, trivial⟩ rfl ?_ ?_ ?_⟩
  · cases bO s.oN <;> cases bO s.sN <;> rfl
  · cases bO s.oN <;> cases bO s.sN <;> rfl
  · cases bO s.oN <;> cases bO s.sN
    · exact ⟨rfl, bis_mem, bis_kn, bis_mAt rfl rfl, trivial, trivial, trivial, trivial⟩
    · exact ⟨rfl, bis_mem, bis_kn, bis_mAt rfl rfl, hs, trivial, trivial, trivial, trivial⟩
    · exact ⟨bis_resO (fun _ => rfl), bis_mem, bis_kn, bis_mAt rfl rfl, bis_outB, trivial, trivial, trivial, trivial⟩
    · exact ⟨bis_resO (fun _ => rfl), bis_mem, bis_kn, bis_mAt rfl rfl, bis_outB, hs, trivial, trivial, trivial, trivial⟩
  · cases bO s.oN <;> cases bO s.sN <;> rfl
end Go.X
