import Derived.Test.YtnekegldodbgjaaF26
import Derived.Test.YtnekegldodbgjaaF33
set_option linter.all false
set_option linter.unusedVariables false
set_option linter.unusedSimpArgs false
namespace Go.X
open Go Go.Proofs
set_option linter.unusedVariables false
set_option linter.unusedSimpArgs false
theorem u32_wrap (x : Int) : IntKind.u32.wrap x = x % 4294967296 := by simp [IntKind.wrap, IntKind.bits, IntKind.signed]
def isU (x : Int) : Prop := 0 ≤ x ∧ x < 4294967296
theorem or_nat {a b : Int} (ha : isU a) (hb : isU b) : orW a b = ((a.toNat ||| b.toNat : Nat) : Int) := by
  show IntKind.u32.wrap (BitVec.ofInt 32 a ||| BitVec.ofInt 32 b).toNat = _
  have e : ∀ x : Int, isU x → (BitVec.ofInt 32 x).toNat = x.toNat := fun x hx => by
    rw [BitVec.toNat_ofInt]
    unfold isU at hx
    omega
  rw [BitVec.toNat_or, e a ha, e b hb, u32_wrap]
  have : a.toNat ||| b.toNat < 2 ^ 32 := Nat.or_lt_two_pow (by unfold isU at ha; omega) (by unfold isU at hb; omega)
  omega
theorem or_isU {a b : Int} (ha : isU a) (hb : isU b) : isU (orW a b) := by
  rw [or_nat ha hb]
  have : a.toNat ||| b.toNat < 2 ^ 32 := Nat.or_lt_two_pow (by unfold isU at ha; omega) (by unfold isU at hb; omega)
  unfold isU
  omega
def e12 (x : Nat) : Nat := (x >>> 12) % 2 ^ 3
theorem e12_or (a b : Nat) : e12 (a ||| b) = e12 a ||| e12 b := by unfold e12; rw [Nat.shiftRight_or_distrib, Nat.or_mod_two_pow]
theorem e12_div (x : Nat) : e12 x = x / 4096 % 8 := by unfold e12; rw [Nat.shiftRight_eq_div_pow]
def h25 (x : Nat) : Nat := x >>> 25
theorem h25_or (a b : Nat) : h25 (a ||| b) = h25 a ||| h25 b := Nat.shiftRight_or_distrib
theorem h25_div (x : Nat) : h25 x = x / 33554432 := Nat.shiftRight_eq_div_pow x 25
def h26 (x : Nat) : Nat := x >>> 26
theorem h26_or (a b : Nat) : h26 (a ||| b) = h26 a ||| h26 b := Nat.shiftRight_or_distrib
theorem h26_div (x : Nat) : h26 x = x / 67108864 := Nat.shiftRight_eq_div_pow x 26
theorem orE {a b : Int} (ha : isU a) (hb : isU b) (h : e12 b.toNat = 0) : isU (orW a b) ∧ e12 (orW a b).toNat = e12 a.toNat := by
  refine ⟨or_isU ha hb, ?_⟩
  rw [or_nat ha hb, Int.toNat_natCast, e12_or, h, Nat.or_zero]
def regI (r : Int) : Prop := 0 ≤ r ∧ r < 32
theorem word_ok {o f3 f7 rd rs1 rs2 : Int} (ho : 0 ≤ o ∧ o < 128) (h3 : 0 ≤ f3 ∧ f3 < 8) (h7 : 0 ≤ f7 ∧ f7 < 128) (hd : regI rd) (h1 : regI rs1) (h2 : regI rs2) :
    isU (wordB o f3 f7 rd rs1 rs2) ∧ e12 (wordB o f3 f7 rd rs1 rs2).toNat = f3.toNat ∧ h25 (wordB o f3 f7 rd rs1 rs2).toNat = f7.toNat ∧ h26 (wordB o f3 f7 rd rs1 rs2).toNat = f7.toNat / 2 := by
  show isU (orW (orW (orW (orW (orW o _) _) _) _) _) ∧ e12 (orW (orW (orW (orW (orW o _) _) _) _) _).toNat = _ ∧ h25 (orW (orW (orW (orW (orW o _) _) _) _) _).toNat = _ ∧ h26 (orW (orW (orW (orW (orW o _) _) _) _) _).toNat = _
  unfold regI at hd h1 h2
  have p0 : isU o := ⟨ho.1, by omega⟩
  have p1 : isU (IntKind.u32.wrap (f3 * 4096)) := by rw [u32_wrap]; unfold isU; omega
  have p2 : isU (IntKind.u32.wrap (f7 * 33554432)) := by rw [u32_wrap]; unfold isU; omega
  have p3 : isU (IntKind.u32.wrap (IntKind.u32.wrap rd * 128)) := by rw [u32_wrap]; unfold isU; omega
  have p4 : isU (IntKind.u32.wrap (IntKind.u32.wrap rs1 * 32768)) := by rw [u32_wrap]; unfold isU; omega
  have p5 : isU (IntKind.u32.wrap (IntKind.u32.wrap rs2 * 1048576)) := by rw [u32_wrap]; unfold isU; omega
  have v1 : (IntKind.u32.wrap (f3 * 4096)).toNat = f3.toNat * 4096 := by rw [u32_wrap]; omega
  have v2 : (IntKind.u32.wrap (f7 * 33554432)).toNat = f7.toNat * 33554432 := by rw [u32_wrap]; omega
  have v3 : (IntKind.u32.wrap (IntKind.u32.wrap rd * 128)).toNat = rd.toNat * 128 := by rw [u32_wrap, u32_wrap]; omega
  have v4 : (IntKind.u32.wrap (IntKind.u32.wrap rs1 * 32768)).toNat = rs1.toNat * 32768 := by rw [u32_wrap, u32_wrap]; omega
  have v5 : (IntKind.u32.wrap (IntKind.u32.wrap rs2 * 1048576)).toNat = rs2.toNat * 1048576 := by rw [u32_wrap, u32_wrap]; omega
  have u1 := or_isU p0 p1
  have u2 := or_isU u1 p2
  have u3 := or_isU u2 p3
  have u4 := or_isU u3 p4
  refine ⟨or_isU u4 p5, ?_, ?_, ?_⟩
  · rw [or_nat u4 p5, Int.toNat_natCast, e12_or, or_nat u3 p4, Int.toNat_natCast, e12_or, or_nat u2 p3, Int.toNat_natCast, e12_or, or_nat u1 p2, Int.toNat_natCast, e12_or, or_nat p0 p1, Int.toNat_natCast, e12_or, v1, v2, v3, v4, v5]
    rw [show e12 o.toNat = 0 by rw [e12_div]; omega, show e12 (f3.toNat * 4096) = f3.toNat by rw [e12_div]; omega, show e12 (f7.toNat * 33554432) = 0 by rw [e12_div]; omega, show e12 (rd.toNat * 128) = 0 by rw [e12_div]; omega,
      show e12 (rs1.toNat * 32768) = 0 by rw [e12_div]; omega, show e12 (rs2.toNat * 1048576) = 0 by rw [e12_div]; omega]
    simp
  · rw [or_nat u4 p5, Int.toNat_natCast, h25_or, or_nat u3 p4, Int.toNat_natCast, h25_or, or_nat u2 p3, Int.toNat_natCast, h25_or, or_nat u1 p2, Int.toNat_natCast, h25_or, or_nat p0 p1, Int.toNat_natCast, h25_or, v1, v2, v3, v4, v5]
    rw [show h25 o.toNat = 0 by rw [h25_div]; omega, show h25 (f3.toNat * 4096) = 0 by rw [h25_div]; omega, show h25 (f7.toNat * 33554432) = f7.toNat by rw [h25_div]; omega, show h25 (rd.toNat * 128) = 0 by rw [h25_div]; omega,
      show h25 (rs1.toNat * 32768) = 0 by rw [h25_div]; omega, show h25 (rs2.toNat * 1048576) = 0 by rw [h25_div]; omega]
    simp
  · rw [or_nat u4 p5, Int.toNat_natCast, h26_or, or_nat u3 p4, Int.toNat_natCast, h26_or, or_nat u2 p3, Int.toNat_natCast, h26_or, or_nat u1 p2, Int.toNat_natCast, h26_or, or_nat p0 p1, Int.toNat_natCast, h26_or, v1, v2, v3, v4, v5]
    rw [show h26 o.toNat = 0 by rw [h26_div]; omega, show h26 (f3.toNat * 4096) = 0 by rw [h26_div]; omega, show h26 (f7.toNat * 33554432) = f7.toNat / 2 by rw [h26_div]; omega, show h26 (rd.toNat * 128) = 0 by rw [h26_div]; omega,
      show h26 (rs1.toNat * 32768) = 0 by rw [h26_div]; omega, show h26 (rs2.toNat * 1048576) = 0 by rw [h26_div]; omega]
    simp
theorem bitsAt_eq (imm d : Int) {m s : Int} (hm : 0 ≤ m) (hms : m < 4294967296) : ∃ t : Int, 0 ≤ t ∧ t ≤ m ∧ bitsAt imm d m s = IntKind.u32.wrap (t * s) := by
  refine ⟨bits2 .and .u32 ((IntKind.u32.wrap imm).fdiv d) m, ?_, ?_, rfl⟩
  · show 0 ≤ IntKind.u32.wrap _
    rw [u32_wrap]; omega
  · show IntKind.u32.wrap (BitVec.ofInt 32 ((IntKind.u32.wrap imm).fdiv d) &&& BitVec.ofInt 32 m).toNat ≤ m
    have h1 : (BitVec.ofInt 32 ((IntKind.u32.wrap imm).fdiv d) &&& BitVec.ofInt 32 m).toNat ≤ m.toNat := by
      rw [BitVec.toNat_and]
      refine Nat.le_trans Nat.and_le_right ?_
      rw [BitVec.toNat_ofInt]
      omega
    rw [u32_wrap]
    omega
theorem encRegs_ok {bad : Bool} {rd rs1 rs2 w : Int} {rest : Int × Int} (h : encRegs bad rd rs1 rs2 rest = (w, 0)) : bad = false ∧ regI rd ∧ regI rs1 ∧ regI rs2 ∧ rest = (w, 0) := by
  unfold encRegs at h
  have nr : ∀ r, noReg r = false → regI r := fun r hr => by
    simp only [noReg, Bool.or_eq_false_iff, decide_eq_false_iff_not] at hr
    exact ⟨by omega, by omega⟩
  cases bad with
  | true => cases h
  | false =>
    cases hd : noReg rd with
    | true => rw [hd] at h; cases h
    | false =>
      cases h1 : noReg rs1 with
      | true => rw [hd, h1] at h; cases h
      | false =>
        cases h2 : noReg rs2 with
        | true => rw [hd, h1, h2] at h; cases h
        | false => rw [hd, h1, h2] at h; exact ⟨rfl, nr _ hd, nr _ h1, nr _ h2, h⟩
theorem rest_ok {c : Bool} {x w : Int} (h : (bif c then ((0 : Int), (1 : Int)) else (x, 0)) = (w, 0)) : c = false ∧ x = w := by
  cases c with
  | true => cases h
  | false => cases h; exact ⟨rfl, rfl⟩
section
variable {o f3 f7 rd rs1 rs2 imm w : Int} (ho : 0 ≤ o ∧ o < 128) (h3 : 0 ≤ f3 ∧ f3 < 8) (h7 : 0 ≤ f7 ∧ f7 < 128)
include ho h3 h7
theorem factR (h : encR o f3 f7 rd rs1 rs2 imm = (w, 0)) : e12 w.toNat = f3.toNat ∧ h25 w.toNat = f7.toNat := by
  obtain ⟨_, hd, h1, h2, h⟩ := encRegs_ok h
  cases h
  obtain ⟨_, a, b, _⟩ := word_ok ho h3 h7 hd h1 h2
  exact ⟨a, b⟩
theorem factI (h : encI o f3 f7 rd rs1 rs2 imm = (w, 0)) : e12 w.toNat = f3.toNat := by
  obtain ⟨_, hd, h1, h2, h⟩ := encRegs_ok h
  obtain ⟨_, rfl⟩ := rest_ok h
  obtain ⟨p, a, _, _⟩ := word_ok ho h3 h7 hd h1 h2
  obtain ⟨t, t0, t1, ht⟩ := bitsAt_eq imm 1 (m := 4095) (s := 1048576) (by omega) (by omega)
  have hp : isU (bitsAt imm 1 4095 1048576) := by rw [ht, u32_wrap]; unfold isU; omega
  rw [(orE p hp (by rw [e12_div, ht, u32_wrap]; omega)).2, a]
theorem factT (h : encT o f3 f7 rd rs1 rs2 imm = (w, 0)) : e12 w.toNat = f3.toNat ∧ h26 w.toNat = f7.toNat / 2 := by
  obtain ⟨_, hd, h1, h2, h⟩ := encRegs_ok h
  obtain ⟨_, rfl⟩ := rest_ok h
  obtain ⟨p, a, _, b⟩ := word_ok ho h3 h7 hd h1 h2
  obtain ⟨t, t0, t1, ht⟩ := bitsAt_eq imm 1 (m := 63) (s := 1048576) (by omega) (by omega)
  have hp : isU (bitsAt imm 1 63 1048576) := by rw [ht, u32_wrap]; unfold isU; omega
  refine ⟨by rw [(orE p hp (by rw [e12_div, ht, u32_wrap]; omega)).2, a], ?_⟩
  rw [or_nat p hp, Int.toNat_natCast, h26_or, b, show h26 (bitsAt imm 1 63 1048576).toNat = 0 by rw [h26_div, ht, u32_wrap]; omega, Nat.or_zero]
theorem factS (h : encS o f3 f7 rd rs1 rs2 imm = (w, 0)) : e12 w.toNat = f3.toNat := by
  obtain ⟨_, hd, h1, h2, h⟩ := encRegs_ok h
  obtain ⟨_, rfl⟩ := rest_ok h
  obtain ⟨p, a, _, _⟩ := word_ok ho h3 h7 hd h1 h2
  obtain ⟨t, t0, t1, ht⟩ := bitsAt_eq imm 1 (m := 31) (s := 128) (by omega) (by omega)
  obtain ⟨u, u0, u1, hu⟩ := bitsAt_eq imm 32 (m := 127) (s := 33554432) (by omega) (by omega)
  have hp : isU (bitsAt imm 1 31 128) := by rw [ht, u32_wrap]; unfold isU; omega
  have hq : isU (bitsAt imm 32 127 33554432) := by rw [hu, u32_wrap]; unfold isU; omega
  have e1 := orE p hp (by rw [e12_div, ht, u32_wrap]; omega)
  rw [(orE e1.1 hq (by rw [e12_div, hu, u32_wrap]; omega)).2, e1.2, a]
theorem factB (h : encB o f3 f7 rd rs1 rs2 imm = (w, 0)) : e12 w.toNat = f3.toNat := by
  obtain ⟨_, hd, h1, h2, h⟩ := encRegs_ok h
  obtain ⟨_, rfl⟩ := rest_ok h
  obtain ⟨p, a, _, _⟩ := word_ok ho h3 h7 hd h1 h2
  obtain ⟨t, t0, t1, ht⟩ := bitsAt_eq imm 2048 (m := 1) (s := 128) (by omega) (by omega)
  obtain ⟨u, u0, u1, hu⟩ := bitsAt_eq imm 2 (m := 15) (s := 256) (by omega) (by omega)
  obtain ⟨v, v0, v1, hv⟩ := bitsAt_eq imm 32 (m := 63) (s := 33554432) (by omega) (by omega)
  obtain ⟨x, x0, x1, hx⟩ := bitsAt_eq imm 4096 (m := 1) (s := 2147483648) (by omega) (by omega)
  have q1 : isU (bitsAt imm 2048 1 128) := by rw [ht, u32_wrap]; unfold isU; omega
  have q2 : isU (bitsAt imm 2 15 256) := by rw [hu, u32_wrap]; unfold isU; omega
  have q3 : isU (bitsAt imm 32 63 33554432) := by rw [hv, u32_wrap]; unfold isU; omega
  have q4 : isU (bitsAt imm 4096 1 2147483648) := by rw [hx, u32_wrap]; unfold isU; omega
  have e1 := orE p q1 (by rw [e12_div, ht, u32_wrap]; omega)
  have e2 := orE e1.1 q2 (by rw [e12_div, hu, u32_wrap]; omega)
  have e3 := orE e2.1 q3 (by rw [e12_div, hv, u32_wrap]; omega)
  rw [(orE e3.1 q4 (by rw [e12_div, hx, u32_wrap]; omega)).2, e3.2, e2.2, e1.2, a]
end
def tells (F f3 f7 : Int) (w : Nat) : Prop := (F = 82 → e12 w = f3.toNat ∧ h25 w = f7.toNat) ∧ (F = 73 ∨ F = 83 ∨ F = 66 → e12 w = f3.toNat) ∧ (F = 84 → e12 w = f3.toNat ∧ h26 w = f7.toNat / 2)
theorem keysB : (shTab.all fun p => decide (1 ≤ p.1) && decide (p.1 ≤ 55)) = true := by kernel_rfl
def rowQ (q : Int) : Int × Int × Int × Int := rowOf (.int .i64 q)
theorem tells_of {q rd rs1 rs2 imm w : Int} (hq : tabHas shTab (.int .i64 q) = true) (h : encF q rd rs1 rs2 imm = (w, 0)) : tells (rowQ q).1 (rowQ q).2.2.1 (rowQ q).2.2.2 w.toNat := by
  obtain ⟨p, hp, h1, _⟩ := has_mem hq
  have hk := List.all_eq_true.1 keysB p hp
  rw [h1] at hk
  simp only [Bool.and_eq_true, decide_eq_true_eq] at hk
  obtain ⟨k, rfl⟩ : ∃ k : Nat, q = Int.ofNat k := ⟨q.toNat, by simp; omega⟩
  have hk : 1 ≤ k ∧ k ≤ 55 := by simp only [Int.ofNat_eq_natCast] at hk; omega
  match k, hk with
  | 1, _ => exact ⟨fun _ => factR (o := 51) (f3 := 0) (f7 := 0) (by decide) (by decide) (by decide) h, fun h => absurd h (by decide), fun h => absurd h (by decide)⟩
  | 2, _ => exact ⟨fun _ => factR (o := 51) (f3 := 0) (f7 := 32) (by decide) (by decide) (by decide) h, fun h => absurd h (by decide), fun h => absurd h (by decide)⟩
  | 3, _ => exact ⟨fun _ => factR (o := 51) (f3 := 1) (f7 := 0) (by decide) (by decide) (by decide) h, fun h => absurd h (by decide), fun h => absurd h (by decide)⟩
  | 4, _ => exact ⟨fun _ => factR (o := 51) (f3 := 2) (f7 := 0) (by decide) (by decide) (by decide) h, fun h => absurd h (by decide), fun h => absurd h (by decide)⟩
  | 5, _ => exact ⟨fun _ => factR (o := 51) (f3 := 3) (f7 := 0) (by decide) (by decide) (by decide) h, fun h => absurd h (by decide), fun h => absurd h (by decide)⟩
  | 6, _ => exact ⟨fun _ => factR (o := 51) (f3 := 4) (f7 := 0) (by decide) (by decide) (by decide) h, fun h => absurd h (by decide), fun h => absurd h (by decide)⟩
  | 7, _ => exact ⟨fun _ => factR (o := 51) (f3 := 5) (f7 := 0) (by decide) (by decide) (by decide) h, fun h => absurd h (by decide), fun h => absurd h (by decide)⟩
  | 8, _ => exact ⟨fun _ => factR (o := 51) (f3 := 5) (f7 := 32) (by decide) (by decide) (by decide) h, fun h => absurd h (by decide), fun h => absurd h (by decide)⟩
  | 9, _ => exact ⟨fun _ => factR (o := 51) (f3 := 6) (f7 := 0) (by decide) (by decide) (by decide) h, fun h => absurd h (by decide), fun h => absurd h (by decide)⟩
  | 10, _ => exact ⟨fun _ => factR (o := 51) (f3 := 7) (f7 := 0) (by decide) (by decide) (by decide) h, fun h => absurd h (by decide), fun h => absurd h (by decide)⟩
  | 11, _ => exact ⟨fun _ => factR (o := 51) (f3 := 0) (f7 := 1) (by decide) (by decide) (by decide) h, fun h => absurd h (by decide), fun h => absurd h (by decide)⟩
  | 12, _ => exact ⟨fun _ => factR (o := 51) (f3 := 1) (f7 := 1) (by decide) (by decide) (by decide) h, fun h => absurd h (by decide), fun h => absurd h (by decide)⟩
  | 13, _ => exact ⟨fun _ => factR (o := 51) (f3 := 3) (f7 := 1) (by decide) (by decide) (by decide) h, fun h => absurd h (by decide), fun h => absurd h (by decide)⟩
  | 14, _ => exact ⟨fun _ => factR (o := 51) (f3 := 4) (f7 := 1) (by decide) (by decide) (by decide) h, fun h => absurd h (by decide), fun h => absurd h (by decide)⟩
  | 15, _ => exact ⟨fun _ => factR (o := 51) (f3 := 5) (f7 := 1) (by decide) (by decide) (by decide) h, fun h => absurd h (by decide), fun h => absurd h (by decide)⟩
  | 16, _ => exact ⟨fun _ => factR (o := 51) (f3 := 6) (f7 := 1) (by decide) (by decide) (by decide) h, fun h => absurd h (by decide), fun h => absurd h (by decide)⟩
  | 17, _ => exact ⟨fun _ => factR (o := 51) (f3 := 7) (f7 := 1) (by decide) (by decide) (by decide) h, fun h => absurd h (by decide), fun h => absurd h (by decide)⟩
  | 18, _ => exact ⟨fun _ => factR (o := 59) (f3 := 0) (f7 := 0) (by decide) (by decide) (by decide) h, fun h => absurd h (by decide), fun h => absurd h (by decide)⟩
  | 19, _ => exact ⟨fun _ => factR (o := 59) (f3 := 0) (f7 := 32) (by decide) (by decide) (by decide) h, fun h => absurd h (by decide), fun h => absurd h (by decide)⟩
  | 20, _ => exact ⟨fun _ => factR (o := 59) (f3 := 1) (f7 := 0) (by decide) (by decide) (by decide) h, fun h => absurd h (by decide), fun h => absurd h (by decide)⟩
  | 21, _ => exact ⟨fun _ => factR (o := 59) (f3 := 5) (f7 := 0) (by decide) (by decide) (by decide) h, fun h => absurd h (by decide), fun h => absurd h (by decide)⟩
  | 22, _ => exact ⟨fun _ => factR (o := 59) (f3 := 5) (f7 := 32) (by decide) (by decide) (by decide) h, fun h => absurd h (by decide), fun h => absurd h (by decide)⟩
  | 23, _ => exact ⟨fun _ => factR (o := 59) (f3 := 0) (f7 := 1) (by decide) (by decide) (by decide) h, fun h => absurd h (by decide), fun h => absurd h (by decide)⟩
  | 24, _ => exact ⟨fun _ => factR (o := 59) (f3 := 4) (f7 := 1) (by decide) (by decide) (by decide) h, fun h => absurd h (by decide), fun h => absurd h (by decide)⟩
  | 25, _ => exact ⟨fun _ => factR (o := 59) (f3 := 5) (f7 := 1) (by decide) (by decide) (by decide) h, fun h => absurd h (by decide), fun h => absurd h (by decide)⟩
  | 26, _ => exact ⟨fun _ => factR (o := 59) (f3 := 6) (f7 := 1) (by decide) (by decide) (by decide) h, fun h => absurd h (by decide), fun h => absurd h (by decide)⟩
  | 27, _ => exact ⟨fun _ => factR (o := 59) (f3 := 7) (f7 := 1) (by decide) (by decide) (by decide) h, fun h => absurd h (by decide), fun h => absurd h (by decide)⟩
  | 28, _ => exact ⟨fun h => absurd h (by decide), fun _ => factI (o := 19) (f3 := 0) (f7 := 0) (by decide) (by decide) (by decide) h, fun h => absurd h (by decide)⟩
  | 29, _ => exact ⟨fun h => absurd h (by decide), fun _ => factI (o := 19) (f3 := 2) (f7 := 0) (by decide) (by decide) (by decide) h, fun h => absurd h (by decide)⟩
  | 30, _ => exact ⟨fun h => absurd h (by decide), fun _ => factI (o := 19) (f3 := 3) (f7 := 0) (by decide) (by decide) (by decide) h, fun h => absurd h (by decide)⟩
  | 31, _ => exact ⟨fun h => absurd h (by decide), fun _ => factI (o := 19) (f3 := 4) (f7 := 0) (by decide) (by decide) (by decide) h, fun h => absurd h (by decide)⟩
  | 32, _ => exact ⟨fun h => absurd h (by decide), fun _ => factI (o := 19) (f3 := 6) (f7 := 0) (by decide) (by decide) (by decide) h, fun h => absurd h (by decide)⟩
  | 33, _ => exact ⟨fun h => absurd h (by decide), fun _ => factI (o := 19) (f3 := 7) (f7 := 0) (by decide) (by decide) (by decide) h, fun h => absurd h (by decide)⟩
  | 34, _ => exact ⟨fun h => absurd h (by decide), fun h => absurd h (by decide), fun _ => factT (o := 19) (f3 := 1) (f7 := 0) (by decide) (by decide) (by decide) h⟩
  | 35, _ => exact ⟨fun h => absurd h (by decide), fun h => absurd h (by decide), fun _ => factT (o := 19) (f3 := 5) (f7 := 0) (by decide) (by decide) (by decide) h⟩
  | 36, _ => exact ⟨fun h => absurd h (by decide), fun h => absurd h (by decide), fun _ => factT (o := 19) (f3 := 5) (f7 := 32) (by decide) (by decide) (by decide) h⟩
  | 37, _ => exact ⟨fun h => absurd h (by decide), fun _ => factI (o := 27) (f3 := 0) (f7 := 0) (by decide) (by decide) (by decide) h, fun h => absurd h (by decide)⟩
  | 38, _ => exact ⟨fun h => absurd h (by decide), fun _ => factI (o := 3) (f3 := 0) (f7 := 0) (by decide) (by decide) (by decide) h, fun h => absurd h (by decide)⟩
  | 39, _ => exact ⟨fun h => absurd h (by decide), fun _ => factI (o := 3) (f3 := 4) (f7 := 0) (by decide) (by decide) (by decide) h, fun h => absurd h (by decide)⟩
  | 40, _ => exact ⟨fun h => absurd h (by decide), fun _ => factI (o := 3) (f3 := 2) (f7 := 0) (by decide) (by decide) (by decide) h, fun h => absurd h (by decide)⟩
  | 41, _ => exact ⟨fun h => absurd h (by decide), fun _ => factI (o := 3) (f3 := 3) (f7 := 0) (by decide) (by decide) (by decide) h, fun h => absurd h (by decide)⟩
  | 42, _ => exact ⟨fun h => absurd h (by decide), fun _ => factS (o := 35) (f3 := 0) (f7 := 0) (by decide) (by decide) (by decide) h, fun h => absurd h (by decide)⟩
  | 43, _ => exact ⟨fun h => absurd h (by decide), fun _ => factS (o := 35) (f3 := 2) (f7 := 0) (by decide) (by decide) (by decide) h, fun h => absurd h (by decide)⟩
  | 44, _ => exact ⟨fun h => absurd h (by decide), fun _ => factS (o := 35) (f3 := 3) (f7 := 0) (by decide) (by decide) (by decide) h, fun h => absurd h (by decide)⟩
  | 45, _ => exact ⟨fun h => absurd h (by decide), fun _ => factB (o := 99) (f3 := 0) (f7 := 0) (by decide) (by decide) (by decide) h, fun h => absurd h (by decide)⟩
  | 46, _ => exact ⟨fun h => absurd h (by decide), fun _ => factB (o := 99) (f3 := 1) (f7 := 0) (by decide) (by decide) (by decide) h, fun h => absurd h (by decide)⟩
  | 47, _ => exact ⟨fun h => absurd h (by decide), fun _ => factB (o := 99) (f3 := 4) (f7 := 0) (by decide) (by decide) (by decide) h, fun h => absurd h (by decide)⟩
  | 48, _ => exact ⟨fun h => absurd h (by decide), fun _ => factB (o := 99) (f3 := 5) (f7 := 0) (by decide) (by decide) (by decide) h, fun h => absurd h (by decide)⟩
  | 49, _ => exact ⟨fun h => absurd h (by decide), fun _ => factB (o := 99) (f3 := 6) (f7 := 0) (by decide) (by decide) (by decide) h, fun h => absurd h (by decide)⟩
  | 50, _ => exact ⟨fun h => absurd h (by decide), fun _ => factB (o := 99) (f3 := 7) (f7 := 0) (by decide) (by decide) (by decide) h, fun h => absurd h (by decide)⟩
  | 51, _ => exact ⟨fun h => absurd h (by decide), fun h => absurd h (by decide), fun h => absurd h (by decide)⟩
  | 52, _ => exact ⟨fun h => absurd h (by decide), fun h => absurd h (by decide), fun h => absurd h (by decide)⟩
  | 53, _ => exact ⟨fun h => absurd h (by decide), fun h => absurd h (by decide), fun h => absurd h (by decide)⟩
  | 54, _ => exact ⟨fun h => absurd h (by decide), fun _ => factI (o := 103) (f3 := 0) (f7 := 0) (by decide) (by decide) (by decide) h, fun h => absurd h (by decide)⟩
  | 55, _ => exact ⟨fun h => absurd h (by decide), fun h => absurd h (by decide), fun h => absurd h (by decide)⟩
  | 0, h => exact absurd h (by omega)
  | k + 56, h => exact absurd h (by omega)
def apart (a b : Int × Int × Int × Int) : Bool := !(a.2.1 == b.2.1) ||
  (match a.1, b.1 with
  | 82, 82 => !(a.2.2.1 == b.2.2.1) || !(a.2.2.2 == b.2.2.2)
  | 84, 84 => !(a.2.2.1 == b.2.2.1) || !(a.2.2.2.toNat / 2 == b.2.2.2.toNat / 2)
  | _, _ => !(a.2.2.1 == b.2.2.1))
def hasF (F : Int) : Bool := F == 82 || (F == 73 || (F == 83 || (F == 66 || F == 84)))
theorem all_apart : (shTab.all fun p => shTab.all fun r => p.1 == r.1 || ((hasF (rowQ p.1).1 && hasF (rowQ r.1).1 && apart (rowQ p.1) (rowQ r.1)) || !((rowQ p.1).2.1 == (rowQ r.1).2.1))) = true := by kernel_rfl
end Go.X
namespace Go.X
open Go Go.Proofs
set_option linter.unusedVariables false
set_option linter.unusedSimpArgs false
theorem nneg : (shTab.all fun p => decide (0 ≤ (rowQ p.1).2.2.1) && decide (0 ≤ (rowQ p.1).2.2.2)) = true := by kernel_rfl
theorem rest_facts {q F o w : Int} {c : Cand} (h : restF q F o w = some c) : o = bits2 .and .u32 w 127 ∧ encF q c.rd c.rs1 c.rs2 c.imm = (w, 0) := by
  unfold restF at h
  cases h1 : (o != bits2 .and .u32 w 127) with
  | true => rw [h1] at h; cases h
  | false =>
    rw [h1, cond_false] at h
    cases h2 : ((encF q (candF F w).rd (candF F w).rs1 (candF F w).rs2 (candF F w).imm).2 == 0 && (encF q (candF F w).rd (candF F w).rs1 (candF F w).rs2 (candF F w).imm).1 == w) with
    | false => rw [h2] at h; cases h
    | true =>
      rw [h2, cond_true] at h
      cases h
      simp only [Bool.and_eq_true, beq_iff_eq] at h2
      exact ⟨by simpa using h1, Prod.ext h2.2 h2.1⟩
theorem tells_f3 {F f3 f7 : Int} {w : Nat} (h : tells F f3 f7 w) (hf : hasF F = true) : e12 w = f3.toNat := by
  simp only [hasF, Bool.or_eq_true, beq_iff_eq] at hf
  rcases hf with rfl | rfl | rfl | rfl | rfl
  · exact (h.1 rfl).1
  · exact h.2.1 (.inl rfl)
  · exact h.2.1 (.inr (.inl rfl))
  · exact h.2.1 (.inr (.inr rfl))
  · exact (h.2.2 rfl).1
theorem same_q {q r w : Int} {c d : Cand} (hq : tabHas shTab (.int .i64 q) = true) (hr : tabHas shTab (.int .i64 r) = true) (h1 : dec1 q w = some c) (h2 : dec1 r w = some d) : q = r := by
  obtain ⟨o1, e1⟩ := rest_facts h1
  obtain ⟨o2, e2⟩ := rest_facts h2
  have t1 := tells_of hq e1
  have t2 := tells_of hr e2
  obtain ⟨p, hp, rfl, _⟩ := has_mem hq
  obtain ⟨p', hp', rfl, _⟩ := has_mem hr
  have n1 := List.all_eq_true.1 nneg p hp
  have n2 := List.all_eq_true.1 nneg p' hp'
  have ha := List.all_eq_true.1 (List.all_eq_true.1 all_apart p hp) p' hp'
  have ho : (rowQ p.1).2.1 = (rowQ p'.1).2.1 := o1.trans o2.symm
  simp only [Bool.and_eq_true, decide_eq_true_eq] at n1 n2
  rw [ho] at ha
  simp only [beq_self_eq_true, Bool.not_true, Bool.or_false, Bool.or_eq_true, beq_iff_eq, Bool.and_eq_true] at ha
  rcases ha with ha | ⟨⟨f1, f2⟩, ha⟩
  · exact ha
  · exfalso
    have g1 := tells_f3 t1 f1
    have g2 := tells_f3 t2 f2
    have h3 : (rowQ p.1).2.2.1 = (rowQ p'.1).2.2.1 := by omega
    unfold apart at ha
    rw [ho, h3] at ha
    simp only [beq_self_eq_true, Bool.not_true, Bool.false_or] at ha
    split at ha
    · rename_i x1 x2
      have a1 := (t1.1 x1).2
      have a2 := (t2.1 x2).2
      have : (rowQ p.1).2.2.2 = (rowQ p'.1).2.2.2 := by omega
      rw [this] at ha
      simp at ha
    · rename_i x1 x2
      have a1 := (t1.2.2 x1).2
      have a2 := (t2.2.2 x2).2
      have : (rowQ p.1).2.2.2.toNat / 2 = (rowQ p'.1).2.2.2.toNat / 2 := by omega
      rw [this] at ha
      simp at ha
    · cases ha
theorem firstD_is {w q : Int} {c : Cand} (h : dec1 q w = some c) : ∀ {l : List (Int × Value)}, (∃ p ∈ l, p.1 = q) → ∃ q' c', firstD w l = some (q', c') ∧ (∃ p ∈ l, p.1 = q') ∧ dec1 q' w = some c'
  | [], ⟨p, hp, _⟩ => by cases hp
  | (k, v) :: l, hp => by
    unfold firstD
    cases hd : dec1 k w with
    | some x => exact ⟨k, x, rfl, ⟨(k, v), .head _, rfl⟩, hd⟩
    | none =>
      obtain ⟨p, hp, hk⟩ := hp
      rcases List.mem_cons.1 hp with rfl | hp
      · simp only at hk; subst hk; rw [hd] at h; cases h
      · obtain ⟨q', c', e, ⟨p', hp', hk'⟩, hx⟩ := firstD_is h ⟨p, hp, hk⟩
        exact ⟨q', c', e, ⟨p', .tail _ hp', hk'⟩, hx⟩
theorem decU_all (w : Int) : DecU w := by
  intro q c hq hc
  obtain ⟨p, hp, h1, _⟩ := has_mem hq
  obtain ⟨q', c', e, ⟨p', hp', hk'⟩, hx⟩ := firstD_is hc ⟨p, hp, h1⟩
  have := same_q hq (mem_has hp' hk') hc hx
  subst this
  rw [hc] at hx
  cases hx
  exact e
end Go.X
namespace Go.X
open Go Go.Proofs
set_option linter.unusedVariables false
set_option linter.unusedSimpArgs false
def prog6 : List Int := [147, 8, 32, 0, 115, 0, 0, 0, 99, 74, 5, 0, 147, 8, 16, 0, 115, 0, 0, 0, 147, 130, 18, 0, 111, 240, 159, 254, 19, 133, 2, 0, 147, 8, 48, 0, 115, 0, 0, 0]
def mem6 (j : Nat) : Int := prog6.getD j 0
def noMem (e : REnv) (s : RSt) (i : Ans) : Bool × RSt := (false, s)
structure EI (e : REnv) (p a5 a10 a17 : Int) (ik oN : Nat) (s : RSt) : Prop where
  sz : s.m.sz = 64
  mem : s.m.mem = mem6
  pl : s.m.pl = p
  st : s.m.st = 0
  x0 : s.m.x 0 = 0
  x5 : s.m.x 5 = a5
  x10 : s.m.x 10 = a10
  x17 : s.m.x 17 = a17
  fik : s.ik = ik
  foN : s.oN = oN
  out : ∀ j, j < oN → s.of j = IntKind.u8.wrap (IntKind.u64.wrap (e.inp (e.k0 + j)))
def word6 (p : Int) : Int := IntKind.u32.wrap (num4 mem6 (p.toNat * 1))
theorem w6 {e : REnv} {p a5 a10 a17 : Int} {ik oN : Nat} {s : RSt} (h : EI e p a5 a10 a17 ik oN s) : w32 s.m = word6 p := by unfold w32 word6; rw [h.mem, h.pl]
theorem d6_0 : decA (word6 0) = ⟨28, ⟨17, 0, 0, 2⟩, 0⟩ := by kernel_rfl
theorem d6_4 : decA (word6 4) = ⟨55, ⟨0, 0, 0, 0⟩, 0⟩ := by kernel_rfl
theorem d6_8 : decA (word6 8) = ⟨47, ⟨0, 10, 0, 20⟩, 0⟩ := by kernel_rfl
theorem d6_12 : decA (word6 12) = ⟨28, ⟨17, 0, 0, 1⟩, 0⟩ := by kernel_rfl
theorem d6_16 : decA (word6 16) = ⟨55, ⟨0, 0, 0, 0⟩, 0⟩ := by kernel_rfl
theorem d6_20 : decA (word6 20) = ⟨28, ⟨5, 5, 0, 1⟩, 0⟩ := by kernel_rfl
theorem d6_24 : decA (word6 24) = ⟨53, ⟨0, 0, 0, -24⟩, 0⟩ := by kernel_rfl
theorem d6_28 : decA (word6 28) = ⟨28, ⟨10, 5, 0, 0⟩, 0⟩ := by kernel_rfl
theorem d6_32 : decA (word6 32) = ⟨28, ⟨17, 0, 0, 3⟩, 0⟩ := by kernel_rfl
theorem d6_36 : decA (word6 36) = ⟨55, ⟨0, 0, 0, 0⟩, 0⟩ := by kernel_rfl
section
variable {e : REnv} {p a5 a10 a17 : Int} {ik oN : Nat} {s : RSt} (h : EI e p a5 a10 a17 ik oN s)
include h
theorem go_plain {op : Int} {c : Cand} (hp : plB 64 p 4 = true) (hd : decA (word6 p) = ⟨op, c, 0⟩) (ho : plainB op = true) : stepG noMem e s = (true, { s with m := stepM s.m s.m.kn' op c, mark := markF op c s.mark }) := by
  unfold stepG
  rw [w6 h, hd, h.sz, h.pl, hp]
  simp only [cond_true, ho, beq_self_eq_true]
theorem go_call {c : Cand} (hp : plB 64 p 4 = true) (hd : decA (word6 p) = ⟨55, c, 0⟩) : stepG noMem e s = callR e s s.m.kn' := by
  unfold stepG
  rw [w6 h, hd, h.sz, h.pl, hp]
  rfl
end
section
variable {e : REnv} {a5 a10 a17 : Int} {ik oN : Nat} {s : RSt}
theorem s6_0 (h : EI e 0 a5 a10 a17 ik oN s) : ∃ s', stepG noMem e s = (true, s') ∧ EI e 4 a5 a10 2 ik oN s' := by
  refine ⟨_, go_plain h rfl d6_0 rfl, h.sz, h.mem, ?_, h.st, rfl, h.x5, h.x10, ?_, h.fik, h.foN, h.out⟩
  · show IntKind.u64.wrap (s.m.pl + 4) = 4; rw [h.pl]; rfl
  · show IntKind.u64.wrap (s.m.x 0 + ofF 2) = 2; rw [h.x0]; rfl
theorem s6_4a (h : EI e 4 a5 a10 2 ik oN s) (hb : e.bi = true) (hl : ik < e.L0) : ∃ s', stepG noMem e s = (true, s') ∧ EI e 8 a5 (IntKind.u64.wrap (e.inp (e.k0 + ik))) 2 (ik + 1) oN s' := by
  refine ⟨{ s with m := finM s.m (inMore s.m (e.inp (e.k0 + s.ik))) s.m.kn' true, ik := s.ik + 1 }, ?_, h.sz, h.mem, ?_, h.st, rfl, h.x5, ?_, h.x17, by show s.ik + 1 = ik + 1; rw [h.fik], h.foN, h.out⟩
  · rw [go_call h rfl d6_4]
    unfold callR
    rw [h.x17, hb, h.fik, lt_blt hl]
    rfl
  · show IntKind.u64.wrap (s.m.pl + 4) = 8; rw [h.pl]; rfl
  · show IntKind.u64.wrap (e.inp (e.k0 + s.ik)) = _; rw [h.fik]
theorem s6_4b (h : EI e 4 a5 a10 2 ik oN s) (hb : (e.bi && Nat.blt ik e.L0) = false) : ∃ s', stepG noMem e s = (true, s') ∧ EI e 8 a5 18446744073709551615 2 ik oN s' := by
  refine ⟨{ s with m := finM s.m (inMax s.m) s.m.kn' true }, ?_, h.sz, h.mem, ?_, h.st, rfl, h.x5, rfl, h.x17, h.fik, h.foN, h.out⟩
  · rw [go_call h rfl d6_4]
    unfold callR
    rw [h.x17, h.fik, hb]
    rfl
  · show IntKind.u64.wrap (s.m.pl + 4) = 8; rw [h.pl]; rfl
theorem s6_8a (h : EI e 8 a5 a10 a17 ik oN s) (h0 : 0 ≤ a10) (h1 : a10 < 9223372036854775808) : ∃ s', stepG noMem e s = (true, s') ∧ EI e 12 a5 a10 a17 ik oN s' := by
  refine ⟨_, go_plain h rfl d6_8 rfl, h.sz, h.mem, ?_, h.st, rfl, h.x5, h.x10, h.x17, h.fik, h.foN, h.out⟩
  show (bif takenF 47 (s.m.x 10) (s.m.x 0) then IntKind.u64.wrap (s.m.pl + ofF 20) else nxt s.m) = 12
  have g : takenF 47 a10 0 = false := by
    show (decide (IntKind.i64.wrap a10 < 0) == true) = false
    rw [wrap_i (by omega) h1]
    simp; omega
  rw [h.x10, h.x0, g]
  show IntKind.u64.wrap (s.m.pl + 4) = 12; rw [h.pl]; rfl
theorem s6_8b (h : EI e 8 a5 18446744073709551615 a17 ik oN s) : ∃ s', stepG noMem e s = (true, s') ∧ EI e 28 a5 18446744073709551615 a17 ik oN s' := by
  refine ⟨_, go_plain h rfl d6_8 rfl, h.sz, h.mem, ?_, h.st, rfl, h.x5, h.x10, h.x17, h.fik, h.foN, h.out⟩
  show (bif takenF 47 (s.m.x 10) (s.m.x 0) then IntKind.u64.wrap (s.m.pl + ofF 20) else nxt s.m) = 28
  rw [h.x10, h.x0, h.pl]; rfl
theorem s6_12 (h : EI e 12 a5 a10 a17 ik oN s) : ∃ s', stepG noMem e s = (true, s') ∧ EI e 16 a5 a10 1 ik oN s' := by
  refine ⟨_, go_plain h rfl d6_12 rfl, h.sz, h.mem, ?_, h.st, rfl, h.x5, h.x10, ?_, h.fik, h.foN, h.out⟩
  · show IntKind.u64.wrap (s.m.pl + 4) = 16; rw [h.pl]; rfl
  · show IntKind.u64.wrap (s.m.x 0 + ofF 1) = 1; rw [h.x0]; rfl
theorem s6_16 (h : EI e 16 a5 (IntKind.u64.wrap (e.inp (e.k0 + oN))) 1 ik oN s) : ∃ s', stepG noMem e s = (true, s') ∧ EI e 20 a5 (IntKind.u64.wrap (e.inp (e.k0 + oN))) 1 ik (oN + 1) s' := by
  refine ⟨{ s with m := finM s.m s.m s.m.kn' true, oN := s.oN + 1, of := outMore s.of s.oN (IntKind.u8.wrap (s.m.x 10)) }, ?_, h.sz, h.mem, ?_, h.st, rfl, h.x5, h.x10, h.x17, h.fik, by show s.oN + 1 = oN + 1; rw [h.foN], ?_⟩
  · rw [go_call h rfl d6_16]
    unfold callR
    rw [h.x17]
    rfl
  · show IntKind.u64.wrap (s.m.pl + 4) = 20; rw [h.pl]; rfl
  · intro j hj
    show (bif Nat.blt j s.oN then s.of j else IntKind.u8.wrap (s.m.x 10)) = _
    rw [h.foN, h.x10]
    by_cases hlt : j < oN
    · rw [lt_blt hlt]; exact h.out j hlt
    · have : j = oN := by omega
      subst this
      have hb0 : Nat.blt j j = false := by rw [blt_dec]; simp
      rw [hb0]; rfl
theorem s6_20 (h : EI e 20 a5 a10 a17 ik oN s) : ∃ s', stepG noMem e s = (true, s') ∧ EI e 24 (IntKind.u64.wrap (a5 + 1)) a10 a17 ik oN s' := by
  refine ⟨_, go_plain h rfl d6_20 rfl, h.sz, h.mem, ?_, h.st, rfl, ?_, h.x10, h.x17, h.fik, h.foN, h.out⟩
  · show IntKind.u64.wrap (s.m.pl + 4) = 24; rw [h.pl]; rfl
  · show IntKind.u64.wrap (s.m.x 5 + ofF 1) = _; rw [h.x5]; rfl
theorem s6_24 (h : EI e 24 a5 a10 a17 ik oN s) : ∃ s', stepG noMem e s = (true, s') ∧ EI e 0 a5 a10 a17 ik oN s' := by
  refine ⟨_, go_plain h rfl d6_24 rfl, h.sz, h.mem, ?_, h.st, rfl, h.x5, h.x10, h.x17, h.fik, h.foN, h.out⟩
  show IntKind.u64.wrap (s.m.pl + ofF (-24)) = 0; rw [h.pl]; rfl
theorem s6_28 (h : EI e 28 a5 a10 a17 ik oN s) : ∃ s', stepG noMem e s = (true, s') ∧ EI e 32 a5 (IntKind.u64.wrap (a5 + 0)) a17 ik oN s' := by
  refine ⟨_, go_plain h rfl d6_28 rfl, h.sz, h.mem, ?_, h.st, rfl, h.x5, ?_, h.x17, h.fik, h.foN, h.out⟩
  · show IntKind.u64.wrap (s.m.pl + 4) = 32; rw [h.pl]; rfl
  · show IntKind.u64.wrap (s.m.x 5 + ofF 0) = _; rw [h.x5]; rfl
theorem s6_32 (h : EI e 32 a5 a10 a17 ik oN s) : ∃ s', stepG noMem e s = (true, s') ∧ EI e 36 a5 a10 3 ik oN s' := by
  refine ⟨_, go_plain h rfl d6_32 rfl, h.sz, h.mem, ?_, h.st, rfl, h.x5, h.x10, ?_, h.fik, h.foN, h.out⟩
  · show IntKind.u64.wrap (s.m.pl + 4) = 36; rw [h.pl]; rfl
  · show IntKind.u64.wrap (s.m.x 0 + ofF 3) = 3; rw [h.x0]; rfl
structure EE (e : REnv) (code : Int) (oN : Nat) (s : RSt) : Prop where
  st : s.m.st = 1
  cd : s.m.cd = code
  foN : s.oN = oN
  out : ∀ j, j < oN → s.of j = IntKind.u8.wrap (IntKind.u64.wrap (e.inp (e.k0 + j)))
theorem s6_36 (h : EI e 36 a5 a10 3 ik oN s) : ∃ s', stepG noMem e s = (true, s') ∧ EE e (IntKind.u8.wrap a10) oN s' := by
  refine ⟨{ s with m := finM s.m (endM s.m) s.m.kn' true }, ?_, ?_, ?_, h.foN, h.out⟩
  · rw [go_call h rfl d6_36]
    unfold callR
    rw [h.x17]
    rfl
  · show (bif s.m.x 17 == 3 then (1 : Int) else _) = 1
    rw [h.x17]; rfl
  · show (bif s.m.x 17 == 3 then IntKind.u8.wrap (s.m.x 10) else s.m.cd) = _
    rw [h.x17, h.x10]; rfl
end
end Go.X
