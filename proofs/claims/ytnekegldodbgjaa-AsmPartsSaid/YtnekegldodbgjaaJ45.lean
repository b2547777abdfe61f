import Derived.Test.YtnekegldodbgjaaJ32
import Derived.Test.YtnekegldodbgjaaJ44
import Derived.Test.YtnekegldodbgjaaJ41
import Derived.Test.YtnekegldodbgjaaJ42
set_option linter.all false
namespace Go.X
open Go Go.Proofs
theorem u32_wrap (x : Int) : IntKind.u32.wrap x = x % 4294967296 := by simp [IntKind.wrap, IntKind.bits, IntKind.signed]
def isU (x : Int) : Prop := 0 <= x /\ x < 4294967296
theorem or_nat {a b : Int} (ha : isU a) (hb : isU b) : orW a b = ((a.toNat ||| b.toNat : Nat) : Int) := by
  show IntKind.u32.wrap (BitVec.ofInt 32 a ||| BitVec.ofInt 32 b).toNat = _
  have e : ∀ x : Int, isU x -> (BitVec.ofInt 32 x).toNat = x.toNat := fun x hx => by
    rw [BitVec.toNat_ofInt]
    unfold isU at hx
    omega
  rw [BitVec.toNat_or, e a ha, e b hb, u32_wrap]
  have : a.toNat ||| b.toNat < 2 ^ 32 := Nat.or_lt_two_pow (by unfold isU at ha; omega) (by unfold isU at hb; omega)
  omega
theorem or_isU {a b : Int} (ha : isU a) (hb : isU b) : isU (orW a b) := by
  rw [or_nat ha hb]
  have : a.toNat ||| b.toNat < 2 ^ 32 := Nat.or_lt_two_pow (by unfold isU at ha; omega) (by unfold isU at hb; omega)
  unfold isU
  omega
def e12 (x : Nat) : Nat := (x >>> 12) % 2 ^ 3
theorem e12_or (a b : Nat) : e12 (a ||| b) = e12 a ||| e12 b := by unfold e12; rw [Nat.shiftRight_or_distrib, Nat.or_mod_two_pow]
theorem e12_div (x : Nat) : e12 x = x / 4096 % 8 := by unfold e12; rw [Nat.shiftRight_eq_div_pow]
def h25 (x : Nat) : Nat := x >>> 25
theorem h25_or (a b : Nat) : h25 (a ||| b) = h25 a ||| h25 b := Nat.shiftRight_or_distrib
theorem h25_div (x : Nat) : h25 x = x / 33554432 := Nat.shiftRight_eq_div_pow x 25
def h26 (x : Nat) : Nat := x >>> 26
theorem h26_or (a b : Nat) : h26 (a ||| b) = h26 a ||| h26 b := Nat.shiftRight_or_distrib
theorem h26_div (x : Nat) : h26 x = x / 67108864 := Nat.shiftRight_eq_div_pow x 26
theorem orE {a b : Int} (ha : isU a) (hb : isU b) (h : e12 b.toNat = 0) : isU (orW a b) /\ e12 (orW a b).toNat = e12 a.toNat := by
  refine ⟨or_isU ha hb, ?_⟩
  rw [or_nat ha hb, Int.toNat_natCast, e12_or, h, Nat.or_zero]
def regI (r : Int) : Prop := 0 <= r /\ r < 32
theorem word_ok {o f3 f7 rd rs1 rs2 : Int} (ho : 0 <= o /\ o < 128) (h3 : 0 <= f3 /\ f3 < 8) (h7 : 0 <= f7 /\ f7 < 128) (hd : regI rd) (h1 : regI rs1) (h2 : regI rs2) :
    isU (wordB o f3 f7 rd rs1 rs2) /\ e12 (wordB o f3 f7 rd rs1 rs2).toNat = f3.toNat /\ h25 (wordB o f3 f7 rd rs1 rs2).toNat = f7.toNat /\ h26 (wordB o f3 f7 rd rs1 rs2).toNat = f7.toNat / 2 := by
  show isU (orW (orW (orW (orW (orW o _) _) _) _) _) /\ e12 (orW (orW (orW (orW (orW o _) _) _) _) _).toNat = _ /\ h25 (orW (orW (orW (orW (orW o _) _) _) _) _).toNat = _ /\ h26 (orW (orW (orW (orW (orW o _) _) _) _) _).toNat = _
  unfold regI at hd h1 h2
  have p0 : isU o := ⟨ho.1, by omega⟩
  have p1 : isU (IntKind.u32.wrap (f3 * 4096)) := by rw [u32_wrap]; unfold isU; omega
  have p2 : isU (IntKind.u32.wrap (f7 * 33554432)) := by rw [u32_wrap]; unfold isU; omega
  have p3 : isU (IntKind.u32.wrap (IntKind.u32.wrap rd * 128)) := by rw [u32_wrap]; unfold isU; omega
  have p4 : isU (IntKind.u32.wrap (IntKind.u32.wrap rs1 * 32768)) := by rw [u32_wrap]; unfold isU; omega
  have p5 : isU (IntKind.u32.wrap (IntKind.u32.wrap rs2 * 1048576)) := by rw [u32_wrap]; unfold isU; omega
  have v1 : (IntKind.u32.wrap (f3 * 4096)).toNat = f3.toNat * 4096 := by rw [u32_wrap]; omega
  have v2 : (IntKind.u32.wrap (f7 * 33554432)).toNat = f7.toNat * 33554432 := by rw [u32_wrap]; omega
  have v3 : (IntKind.u32.wrap (IntKind.u32.wrap rd * 128)).toNat = rd.toNat * 128 := by rw [u32_wrap, u32_wrap]; omega
  have v4 : (IntKind.u32.wrap (IntKind.u32.wrap rs1 * 32768)).toNat = rs1.toNat * 32768 := by rw [u32_wrap, u32_wrap]; omega
  have v5 : (IntKind.u32.wrap (IntKind.u32.wrap rs2 * 1048576)).toNat = rs2.toNat * 1048576 := by rw [u32_wrap, u32_wrap]; omega
  have u1 := or_isU p0 p1
  have u2 := or_isU u1 p2
  have u3 := or_isU u2 p3
  have u4 := or_isU u3 p4
  refine ⟨or_isU u4 p5, ?_, ?_, ?_⟩
  · rw [or_nat u4 p5, Int.toNat_natCast, e12_or, or_nat u3 p4, Int.toNat_natCast, e12_or, or_nat u2 p3, Int.toNat_natCast, e12_or, or_nat u1 p2, Int.toNat_natCast, e12_or, or_nat p0 p1, Int.toNat_natCast, e12_or, v1, v2, v3, v4, v5]
    rw [show e12 o.toNat = 0 by rw [e12_div]; omega, show e12 (f3.toNat * 4096) = f3.toNat by rw [e12_div]; omega, show e12 (f7.toNat * 33554432) = 0 by rw [e12_div]; omega, show e12 (rd.toNat * 128) = 0 by rw [e12_div]; omega,
      show e12 (rs1.toNat * 32768) = 0 by rw [e12_div]; omega, show e12 (rs2.toNat * 1048576) = 0 by rw [e12_div]; omega]
    simp
  · rw [or_nat u4 p5, Int.toNat_natCast, h25_or, or_nat u3 p4, Int.toNat_natCast, h25_or, or_nat u2 p3, Int.toNat_natCast, h25_or, or_nat u1 p2, Int.toNat_natCast, h25_or, or_nat p0 p1, Int.toNat_natCast, h25_or, v1, v2, v3, v4, v5]
    rw [show h25 o.toNat = 0 by rw [h25_div]; omega, show h25 (f3.toNat * 4096) = 0 by rw [h25_div]; omega, show h25 (f7.toNat * 33554432) = f7.toNat by rw [h25_div]; omega, show h25 (rd.toNat * 128) = 0 by rw [h25_div]; omega,
      show h25 (rs1.toNat * 32768) = 0 by rw [h25_div]; omega, show h25 (rs2.toNat * 1048576) = 0 by rw [h25_div]; omega]
    simp
  · rw [or_nat u4 p5, Int.toNat_natCast, h26_or, or_nat u3 p4, Int.toNat_natCast, h26_or, or_nat u2 p3, Int.toNat_natCast, h26_or, or_nat u1 p2, Int.toNat_natCast, h26_or, or_nat p0 p1, Int.toNat_natCast, h26_or, v1, v2, v3, v4, v5]
    rw [show h26 o.toNat = 0 by rw [h26_div]; omega, show h26 (f3.toNat * 4096) = 0 by rw [h26_div]; omega, show h26 (f7.toNat * 33554432) = f7.toNat / 2 by rw [h26_div]; omega, show h26 (rd.toNat * 128) = 0 by rw [h26_div]; omega,
      show h26 (rs1.toNat * 32768) = 0 by rw [h26_div]; omega, show h26 (rs2.toNat * 1048576) = 0 by rw [h26_div]; omega]
    simp
theorem bitsAt_eq (imm d : Int) {m s : Int} (hm : 0 <= m) (hms : m < 4294967296) : ∃ t : Int, 0 <= t /\ t <= m /\ bitsAt imm d m s = IntKind.u32.wrap (t * s) := by
  refine ⟨bits2 .and .u32 ((IntKind.u32.wrap imm).fdiv d) m, ?_, ?_, rfl⟩
  · show 0 <= IntKind.u32.wrap _
    rw [u32_wrap]; omega
  · show IntKind.u32.wrap (BitVec.ofInt 32 ((IntKind.u32.wrap imm).fdiv d) &&& BitVec.ofInt 32 m).toNat <= m
    have h1 : (BitVec.ofInt 32 ((IntKind.u32.wrap imm).fdiv d) &&& BitVec.ofInt 32 m).toNat <= m.toNat := by
      rw [BitVec.toNat_and]
      refine Nat.le_trans Nat.and_le_right ?_
      rw [BitVec.toNat_ofInt]
      omega
    rw [u32_wrap]
    omega
theorem encRegs_ok {bad : Bool} {rd rs1 rs2 w : Int} {rest : Int × Int} (h : encRegs bad rd rs1 rs2 rest = (w, 0)) : bad = false /\ regI rd /\ regI rs1 /\ regI rs2 /\ rest = (w, 0) := by
  unfold encRegs at h
  have nr : ∀ r, noReg r = false -> regI r := fun r hr => by
    simp only [noReg, Bool.or_eq_false_iff, decide_eq_false_iff_not] at hr
    exact ⟨by omega, by omega⟩
  cases bad with
  | true => cases h
  | false =>
    cases hd : noReg rd with
    | true => rw [hd] at h; cases h
    | false =>
      cases h1 : noReg rs1 with
      | true => rw [hd, h1] at h; cases h
      | false =>
        cases h2 : noReg rs2 with
        | true => rw [hd, h1, h2] at h; cases h
        | false => rw [hd, h1, h2] at h; exact ⟨rfl, nr _ hd, nr _ h1, nr _ h2, h⟩
theorem rest_ok {c : Bool} {x w : Int} (h : (bif c then ((0 : Int), (1 : Int)) else (x, 0)) = (w, 0)) : c = false /\ x = w := by
  cases c with
  | true => cases h
  | false => cases h; exact ⟨rfl, rfl⟩
section
variable {o f3 f7 rd rs1 rs2 imm w : Int} (ho : 0 <= o /\ o < 128) (h3 : 0 <= f3 /\ f3 < 8) (h7 : 0 <= f7 /\ f7 < 128)
include ho h3 h7
theorem factR (h : encR o f3 f7 rd rs1 rs2 imm = (w, 0)) : e12 w.toNat = f3.toNat /\ h25 w.toNat = f7.toNat := by
  obtain ⟨_, hd, h1, h2, h⟩ := encRegs_ok h
  cases h
  obtain ⟨_, a, b, _⟩ := word_ok ho h3 h7 hd h1 h2
  exact ⟨a, b⟩
theorem factI (h : encI o f3 f7 rd rs1 rs2 imm = (w, 0)) : e12 w.toNat = f3.toNat := by
  obtain ⟨_, hd, h1, h2, h⟩ := encRegs_ok h
  obtain ⟨_, rfl⟩ := rest_ok h
  obtain ⟨p, a, _, _⟩ := word_ok ho h3 h7 hd h1 h2
  obtain ⟨t, t0, t1, ht⟩ := bitsAt_eq imm 1 (m := 4095) (s := 1048576) (by omega) (by omega)
  have hp : isU (bitsAt imm 1 4095 1048576) := by rw [ht, u32_wrap]; unfold isU; omega
  rw [(orE p hp (by rw [e12_div, ht, u32_wrap]; omega)).2, a]
theorem factT (h : encT o f3 f7 rd rs1 rs2 imm = (w, 0)) : e12 w.toNat = f3.toNat /\ h26 w.toNat = f7.toNat / 2 := by
  obtain ⟨_, hd, h1, h2, h⟩ := encRegs_ok h
  obtain ⟨_, rfl⟩ := rest_ok h
  obtain ⟨p, a, _, b⟩ := word_ok ho h3 h7 hd h1 h2
  obtain ⟨t, t0, t1, ht⟩ := bitsAt_eq imm 1 (m := 63) (s := 1048576) (by omega) (by omega)
  have hp : isU (bitsAt imm 1 63 1048576) := by rw [ht, u32_wrap]; unfold isU; omega
  refine ⟨by rw [(orE p hp (by rw [e12_div, ht, u32_wrap]; omega)).2, a], ?_⟩
  rw [or_nat p hp, Int.toNat_natCast, h26_or, b, show h26 (bitsAt imm 1 63 1048576).toNat = 0 by rw [h26_div, ht, u32_wrap]; omega, Nat.or_zero]
theorem factS (h : encS o f3 f7 rd rs1 rs2 imm = (w, 0)) : e12 w.toNat = f3.toNat := by
  obtain ⟨_, hd, h1, h2, h⟩ := encRegs_ok h
  obtain ⟨_, rfl⟩ := rest_ok h
  obtain ⟨p, a, _, _⟩ := word_ok ho h3 h7 hd h1 h2
  obtain ⟨t, t0, t1, ht⟩ := bitsAt_eq imm 1 (m := 31) (s := 128) (by omega) (by omega)
  obtain ⟨u, u0, u1, hu⟩ := bitsAt_eq imm 32 (m := 127) (s := 33554432) (by omega) (by omega)
  have hp : isU (bitsAt imm 1 31 128) := by rw [ht, u32_wrap]; unfold isU; omega
  have hq : isU (bitsAt imm 32 127 33554432) := by rw [hu, u32_wrap]; unfold isU; omega
  have e1 := orE p hp (by rw [e12_div, ht, u32_wrap]; omega)
  rw [(orE e1.1 hq (by rw [e12_div, hu, u32_wrap]; omega)).2, e1.2, a]
theorem factB (h : encB o f3 f7 rd rs1 rs2 imm = (w, 0)) : e12 w.toNat = f3.toNat := by
  obtain ⟨_, hd, h1, h2, h⟩ := encRegs_ok h
  obtain ⟨_, rfl⟩ := rest_ok h
  obtain ⟨p, a, _, _⟩ := word_ok ho h3 h7 hd h1 h2
  obtain ⟨t, t0, t1, ht⟩ := bitsAt_eq imm 2048 (m := 1) (s := 128) (by omega) (by omega)
  obtain ⟨u, u0, u1, hu⟩ := bitsAt_eq imm 2 (m := 15) (s := 256) (by omega) (by omega)
  obtain ⟨v, v0, v1, hv⟩ := bitsAt_eq imm 32 (m := 63) (s := 33554432) (by omega) (by omega)
  obtain ⟨x, x0, x1, hx⟩ := bitsAt_eq imm 4096 (m := 1) (s := 2147483648) (by omega) (by omega)
  have q1 : isU (bitsAt imm 2048 1 128) := by rw [ht, u32_wrap]; unfold isU; omega
  have q2 : isU (bitsAt imm 2 15 256) := by rw [hu, u32_wrap]; unfold isU; omega
  have q3 : isU (bitsAt imm 32 63 33554432) := by rw [hv, u32_wrap]; unfold isU; omega
  have q4 : isU (bitsAt imm 4096 1 2147483648) := by rw [hx, u32_wrap]; unfold isU; omega
  have e1 := orE p q1 (by rw [e12_div, ht, u32_wrap]; omega)
  have e2 := orE e1.1 q2 (by rw [e12_div, hu, u32_wrap]; omega)
  have e3 := orE e2.1 q3 (by rw [e12_div, hv, u32_wrap]; omega)
  rw [(orE e3.1 q4 (by rw [e12_div, hx, u32_wrap]; omega)).2, e3.2, e2.2, e1.2, a]
end
def tells (F f3 f7 : Int) (w : Nat) : Prop := (F = 82 -> e12 w = f3.toNat /\ h25 w = f7.toNat) /\ (F = 73 \/ F = 83 \/ F = 66 -> e12 w = f3.toNat) /\ (F = 84 -> e12 w = f3.toNat /\ h26 w = f7.toNat / 2)
theorem keysB : (shTab.all fun p => decide (1 <= p.1) && decide (p.1 <= 55)) = true := by kernel_rfl
def rowQ (q : Int) : Int × Int × Int × Int := rowOf (.int .i64 q)
theorem tells_of {q rd rs1 rs2 imm w : Int} (hq : tabHas shTab (.int .i64 q) = true) (h : encF q rd rs1 rs2 imm = (w, 0)) : tells (rowQ q).1 (rowQ q).2.2.1 (rowQ q).2.2.2 w.toNat := by
  obtain ⟨p, hp, h1, _⟩ := has_mem hq
  have hk := List.all_eq_true.1 keysB p hp
  rw [h1] at hk
  simp only [Bool.and_eq_true, decide_eq_true_eq] at hk
  obtain ⟨k, rfl⟩ : ∃ k : Nat, q = Int.ofNat k := ⟨q.toNat, by simp; omega⟩
  have hk : 1 <= k /\ k <= 55 := by simp only [Int.ofNat_eq_natCast] at hk; omega
  match k, hk with
  | 1, _ => exact ⟨fun _ => factR (o := 51) (f3 := 0) (f7 := 0) (by decide) (by decide) (by decide) h, fun h => absurd h (by decide), fun h => absurd h (by decide)⟩
  | 2, _ => exact ⟨fun _ => factR (o := 51) (f3 := 0) (f7 := 32) (by decide) (by decide) (by decide) h, fun h => absurd h (by decide), fun h => absurd h (by decide)⟩
  | 3, _ => exact ⟨fun _ => factR (o := 51) (f3 := 1) (f7 := 0) (by decide) (by decide) (by decide) h, fun h => absurd h (by decide), fun h => absurd h (by decide)⟩
  | 4, _ => exact ⟨fun _ => factR (o := 51) (f3 := 2) (f7 := 0) (by decide) (by decide) (by decide) h, fun h => absurd h (by decide), fun h => absurd h (by decide)⟩
  | 5, _ => exact ⟨fun _ => factR (o := 51) (f3 := 3) (f7 := 0) (by decide) (by decide) (by decide) h, fun h => absurd h (by decide), fun h => absurd h (by decide)⟩
  | 6, _ => exact ⟨fun _ => factR (o := 51) (f3 := 4) (f7 := 0) (by decide) (by decide) (by decide) h, fun h => absurd h (by decide), fun h => absurd h (by decide)⟩
  | 7, _ => exact ⟨fun _ => factR (o := 51) (f3 := 5) (f7 := 0) (by decide) (by decide) (by decide) h, fun h => absurd h (by decide), fun h => absurd h (by decide)⟩
  | 8, _ => exact ⟨fun _ => factR (o := 51) (f3 := 5) (f7 := 32) (by decide) (by decide) (by decide) h, fun h => absurd h (by decide), fun h => absurd h (by decide)⟩
  | 9, _ => exact ⟨fun _ => factR (o := 51) (f3 := 6) (f7 := 0) (by decide) (by decide) (by decide) h, fun h => absurd h (by decide), fun h => absurd h (by decide)⟩
  | 10, _ => exact ⟨fun _ => factR (o := 51) (f3 := 7) (f7 := 0) (by decide) (by decide) (by decide) h, fun h => absurd h (by decide), fun h => absurd h (by decide)⟩
  | 11, _ => exact ⟨fun _ => factR (o := 51) (f3 := 0) (f7 := 1) (by decide) (by decide) (by decide) h, fun h => absurd h (by decide), fun h => absurd h (by decide)⟩
  | 12, _ => exact ⟨fun _ => factR (o := 51) (f3 := 1) (f7 := 1) (by decide) (by decide) (by decide) h, fun h => absurd h (by decide), fun h => absurd h (by decide)⟩
  | 13, _ => exact ⟨fun _ => factR (o := 51) (f3 := 3) (f7 := 1) (by decide) (by decide) (by decide) h, fun h => absurd h (by decide), fun h => absurd h (by decide)⟩
  | 14, _ => exact ⟨fun _ => factR (o := 51) (f3 := 4) (f7 := 1) (by decide) (by decide) (by decide) h, fun h => absurd h (by decide), fun h => absurd h (by decide)⟩
  | 15, _ => exact ⟨fun _ => factR (o := 51) (f3 := 5) (f7 := 1) (by decide) (by decide) (by decide) h, fun h => absurd h (by decide), fun h => absurd h (by decide)⟩
  | 16, _ => exact ⟨fun _ => factR (o := 51) (f3 := 6) (f7 := 1) (by decide) (by decide) (by decide) h, fun h => absurd h (by decide), fun h => absurd h (by decide)⟩
  | 17, _ => exact ⟨fun _ => factR (o := 51) (f3 := 7) (f7 := 1) (by decide) (by decide) (by decide) h, fun h => absurd h (by decide), fun h => absurd h (by decide)⟩
  | 18, _ => exact ⟨fun _ => factR (o := 59) (f3 := 0) (f7 := 0) (by decide) (by decide) (by decide) h, fun h => absurd h (by decide), fun h => absurd h (by decide)⟩
  | 19, _ => exact ⟨fun _ => factR (o := 59) (f3 := 0) (f7 := 32) (by decide) (by decide) (by decide) h, fun h => absurd h (by decide), fun h => absurd h (by decide)⟩
  | 20, _ => exact ⟨fun _ => factR (o := 59) (f3 := 1) (f7 := 0) (by decide) (by decide) (by decide) h, fun h => absurd h (by decide), fun h => absurd h (by decide)⟩
  | 21, _ => exact ⟨fun _ => factR (o := 59) (f3 := 5) (f7 := 0) (by decide) (by decide) (by decide) h, fun h => absurd h (by decide), fun h => absurd h (by decide)⟩
  | 22, _ => exact ⟨fun _ => factR (o := 59) (f3 := 5) (f7 := 32) (by decide) (by decide) (by decide) h, fun h => absurd h (by decide), fun h => absurd h (by decide)⟩
  | 23, _ => exact ⟨fun _ => factR (o := 59) (f3 := 0) (f7 := 1) (by decide) (by decide) (by decide) h, fun h => absurd h (by decide), fun h => absurd h (by decide)⟩
  | 24, _ => exact ⟨fun _ => factR (o := 59) (f3 := 4) (f7 := 1) (by decide) (by decide) (by decide) h, fun h => absurd h (by decide), fun h => absurd h (by decide)⟩
  | 25, _ => exact ⟨fun _ => factR (o := 59) (f3 := 5) (f7 := 1) (by decide) (by decide) (by decide) h, fun h => absurd h (by decide), fun h => absurd h (by decide)⟩
  | 26, _ => exact ⟨fun _ => factR (o := 59) (f3 := 6) (f7 := 1) (by decide) (by decide) (by decide) h, fun h => absurd h (by decide), fun h => absurd h (by decide)⟩
  | 27, _ => exact ⟨fun _ => factR (o := 59) (f3 := 7) (f7 := 1) (by decide) (by decide) (by decide) h, fun h => absurd h (by decide), fun h => absurd h (by decide)⟩
  | 28, _ => exact ⟨fun h => absurd h (by decide), fun _ => factI (o := 19) (f3 := 0) (f7 := 0) (by decide) (by decide) (by decide) h, fun h => absurd h (by decide)⟩
  | 29, _ => exact ⟨fun h => absurd h (by decide), fun _ => factI (o := 19) (f3 := 2) (f7 := 0) (by decide) (by decide) (by decide) h, fun h => absurd h (by decide)⟩
  | 30, _ => exact ⟨fun h => absurd h (by decide), fun _ => factI (o := 19) (f3 := 3) (f7 := 0) (by decide) (by decide) (by decide) h, fun h => absurd h (by decide)⟩
  | 31, _ => exact ⟨fun h => absurd h (by decide), fun _ => factI (o := 19) (f3 := 4) (f7 := 0) (by decide) (by decide) (by decide) h, fun h => absurd h (by decide)⟩
  | 32, _ => exact ⟨fun h => absurd h (by decide), fun _ => factI (o := 19) (f3 := 6) (f7 := 0) (by decide) (by decide) (by decide) h, fun h => absurd h (by decide)⟩
  | 33, _ => exact ⟨fun h => absurd h (by decide), fun _ => factI (o := 19) (f3 := 7) (f7 := 0) (by decide) (by decide) (by decide) h, fun h => absurd h (by decide)⟩
  | 34, _ => exact ⟨fun h => absurd h (by decide), fun h => absurd h (by decide), fun _ => factT (o := 19) (f3 := 1) (f7 := 0) (by decide) (by decide) (by decide) h⟩
  | 35, _ => exact ⟨fun h => absurd h (by decide), fun h => absurd h (by decide), fun _ => factT (o := 19) (f3 := 5) (f7 := 0) (by decide) (by decide) (by decide) h⟩
  | 36, _ => exact ⟨fun h => absurd h (by decide), fun h => absurd h (by decide), fun _ => factT (o := 19) (f3 := 5) (f7 := 32) (by decide) (by decide) (by decide) h⟩
  | 37, _ => exact ⟨fun h => absurd h (by decide), fun _ => factI (o := 27) (f3 := 0) (f7 := 0) (by decide) (by decide) (by decide) h, fun h => absurd h (by decide)⟩
  | 38, _ => exact ⟨fun h => absurd h (by decide), fun _ => factI (o := 3) (f3 := 0) (f7 := 0) (by decide) (by decide) (by decide) h, fun h => absurd h (by decide)⟩
  | 39, _ => exact ⟨fun h => absurd h (by decide), fun _ => factI (o := 3) (f3 := 4) (f7 := 0) (by decide) (by decide) (by decide) h, fun h => absurd h (by decide)⟩
  | 40, _ => exact ⟨fun h => absurd h (by decide), fun _ => factI (o := 3) (f3 := 2) (f7 := 0) (by decide) (by decide) (by decide) h, fun h => absurd h (by decide)⟩
  | 41, _ => exact ⟨fun h => absurd h (by decide), fun _ => factI (o := 3) (f3 := 3) (f7 := 0) (by decide) (by decide) (by decide) h, fun h => absurd h (by decide)⟩
  | 42, _ => exact ⟨fun h => absurd h (by decide), fun _ => factS (o := 35) (f3 := 0) (f7 := 0) (by decide) (by decide) (by decide) h, fun h => absurd h (by decide)⟩
  | 43, _ => exact ⟨fun h => absurd h (by decide), fun _ => factS (o := 35) (f3 := 2) (f7 := 0) (by decide) (by decide) (by decide) h, fun h => absurd h (by decide)⟩
  | 44, _ => exact ⟨fun h => absurd h (by decide), fun _ => factS (o := 35) (f3 := 3) (f7 := 0) (by decide) (by decide) (by decide) h, fun h => absurd h (by decide)⟩
  | 45, _ => exact ⟨fun h => absurd h (by decide), fun _ => factB (o := 99) (f3 := 0) (f7 := 0) (by decide) (by decide) (by decide) h, fun h => absurd h (by decide)⟩
  | 46, _ => exact ⟨fun h => absurd h (by decide), fun _ => factB (o := 99) (f3 := 1) (f7 := 0) (by decide) (by decide) (by decide) h, fun h => absurd h (by decide)⟩
  | 47, _ => exact ⟨fun h => absurd h (by decide), fun _ => factB (o := 99) (f3 := 4) (f7 := 0) (by decide) (by decide) (by decide) h, fun h => absurd h (by decide)⟩
  | 48, _ => exact ⟨fun h => absurd h (by decide), fun _ => factB (o := 99) (f3 := 5) (f7 := 0) (by decide) (by decide) (by decide) h, fun h => absurd h (by decide)⟩
  | 49, _ => exact ⟨fun h => absurd h (by decide), fun _ => factB (o := 99) (f3 := 6) (f7 := 0) (by decide) (by decide) (by decide) h, fun h => absurd h (by decide)⟩
  | 50, _ => exact ⟨fun h => absurd h (by decide), fun _ => factB (o := 99) (f3 := 7) (f7 := 0) (by decide) (by decide) (by decide) h, fun h => absurd h (by decide)⟩
  | 51, _ => exact ⟨fun h => absurd h (by decide), fun h => absurd h (by decide), fun h => absurd h (by decide)⟩
  | 52, _ => exact ⟨fun h => absurd h (by decide), fun h => absurd h (by decide), fun h => absurd h (by decide)⟩
  | 53, _ => exact ⟨fun h => absurd h (by decide), fun h => absurd h (by decide), fun h => absurd h (by decide)⟩
  | 54, _ => exact ⟨fun h => absurd h (by decide), fun _ => factI (o := 103) (f3 := 0) (f7 := 0) (by decide) (by decide) (by decide) h, fun h => absurd h (by decide)⟩
  | 55, _ => exact ⟨fun h => absurd h (by decide), fun h => absurd h (by decide), fun h => absurd h (by decide)⟩
  | 0, h => exact absurd h (by omega)
  | k + 56, h => exact absurd h (by omega)
def apart (a b : Int × Int × Int × Int) : Bool := !(a.2.1 == b.2.1) ||
  (match a.1, b.1 with
  | 82, 82 => !(a.2.2.1 == b.2.2.1) || !(a.2.2.2 == b.2.2.2)
  | 84, 84 => !(a.2.2.1 == b.2.2.1) || !(a.2.2.2.toNat / 2 == b.2.2.2.toNat / 2)
  | _, _ => !(a.2.2.1 == b.2.2.1))
def hasF (F : Int) : Bool := F == 82 || (F == 73 || (F == 83 || (F == 66 || F == 84)))
theorem all_apart : (shTab.all fun p => shTab.all fun r => p.1 == r.1 || ((hasF (rowQ p.1).1 && hasF (rowQ r.1).1 && apart (rowQ p.1) (rowQ r.1)) || !((rowQ p.1).2.1 == (rowQ r.1).2.1))) = true := by kernel_rfl
theorem nneg : (shTab.all fun p => decide (0 <= (rowQ p.1).2.2.1) && decide (0 <= (rowQ p.1).2.2.2)) = true := by kernel_rfl
theorem rest_facts {q F o w : Int} {c : Cand} (h : restF q F o w = some c) : o = bits2 .and .u32 w 127 /\ encF q c.rd c.rs1 c.rs2 c.imm = (w, 0) := by
  unfold restF at h
  cases h1 : (o != bits2 .and .u32 w 127) with
  | true => rw [h1] at h; cases h
  | false =>
    rw [h1, cond_false] at h
    cases h2 : ((encF q (candF F w).rd (candF F w).rs1 (candF F w).rs2 (candF F w).imm).2 == 0 && (encF q (candF F w).rd (candF F w).rs1 (candF F w).rs2 (candF F w).imm).1 == w) with
    | false => rw [h2] at h; cases h
    | true =>
      rw [h2, cond_true] at h
      cases h
      simp only [Bool.and_eq_true, beq_iff_eq] at h2
      exact ⟨by simpa using h1, Prod.ext h2.2 h2.1⟩
theorem tells_f3 {F f3 f7 : Int} {w : Nat} (h : tells F f3 f7 w) (hf : hasF F = true) : e12 w = f3.toNat := by
  simp only [hasF, Bool.or_eq_true, beq_iff_eq] at hf
  rcases hf with rfl | rfl | rfl | rfl | rfl
  · exact (h.1 rfl).1
  · exact h.2.1 (.inl rfl)
  · exact h.2.1 (.inr (.inl rfl))
  · exact h.2.1 (.inr (.inr rfl))
  · exact (h.2.2 rfl).1
theorem same_q {q r w : Int} {c d : Cand} (hq : tabHas shTab (.int .i64 q) = true) (hr : tabHas shTab (.int .i64 r) = true) (h1 : dec1 q w = some c) (h2 : dec1 r w = some d) : q = r := by
  obtain ⟨o1, e1⟩ := rest_facts h1
  obtain ⟨o2, e2⟩ := rest_facts h2
  have t1 := tells_of hq e1
  have t2 := tells_of hr e2
  obtain ⟨p, hp, rfl, _⟩ := has_mem hq
  obtain ⟨p', hp', rfl, _⟩ := has_mem hr
  have n1 := List.all_eq_true.1 nneg p hp
  have n2 := List.all_eq_true.1 nneg p' hp'
  have ha := List.all_eq_true.1 (List.all_eq_true.1 all_apart p hp) p' hp'
  have ho : (rowQ p.1).2.1 = (rowQ p'.1).2.1 := o1.trans o2.symm
  simp only [Bool.and_eq_true, decide_eq_true_eq] at n1 n2
  rw [ho] at ha
  simp only [beq_self_eq_true, Bool.not_true, Bool.or_false, Bool.or_eq_true, beq_iff_eq, Bool.and_eq_true] at ha
  rcases ha with ha | ⟨⟨f1, f2⟩, ha⟩
  · exact ha
  · exfalso
    have g1 := tells_f3 t1 f1
    have g2 := tells_f3 t2 f2
    have h3 : (rowQ p.1).2.2.1 = (rowQ p'.1).2.2.1 := by omega
    unfold apart at ha
    rw [ho, h3] at ha
    simp only [beq_self_eq_true, Bool.not_true, Bool.false_or] at ha
    split at ha
    · rename_i x1 x2
      have a1 := (t1.1 x1).2
      have a2 := (t2.1 x2).2
      have : (rowQ p.1).2.2.2 = (rowQ p'.1).2.2.2 := by omega
      rw [this] at ha
      simp at ha
    · rename_i x1 x2
      have a1 := (t1.2.2 x1).2
      have a2 := (t2.2.2 x2).2
      have : (rowQ p.1).2.2.2.toNat / 2 = (rowQ p'.1).2.2.2.toNat / 2 := by omega
      rw [this] at ha
      simp at ha
    · cases ha
theorem firstD_is {w q : Int} {c : Cand} (h : dec1 q w = some c) : ∀ {l : List (Int × Value)}, (∃ p ∈ l, p.1 = q) -> ∃ q' c', firstD w l = some (q', c') /\ (∃ p ∈ l, p.1 = q') /\ dec1 q' w = some c'
  | [], ⟨p, hp, _⟩ => by cases hp
  | (k, v) :: l, hp => by
    unfold firstD
    cases hd : dec1 k w with
    | some x => exact ⟨k, x, rfl, ⟨(k, v), .head _, rfl⟩, hd⟩
    | none =>
      obtain ⟨p, hp, hk⟩ := hp
      rcases List.mem_cons.1 hp with rfl | hp
      · simp only at hk; subst hk; rw [hd] at h; cases h
      · obtain ⟨q', c', e, ⟨p', hp', hk'⟩, hx⟩ := firstD_is h ⟨p, hp, hk⟩
        exact ⟨q', c', e, ⟨p', .tail _ hp', hk'⟩, hx⟩
theorem decU_all (w : Int) : DecU w := by
  intro q c hq hc
  obtain ⟨p, hp, h1, _⟩ := has_mem hq
  obtain ⟨q', c', e, ⟨p', hp', hk'⟩, hx⟩ := firstD_is hc ⟨p, hp, h1⟩
  have := same_q hq (mem_has hp' hk') hc hx
  subst this
  rw [hc] at hx
  cases hx
  exact e
abbrev stepF (e : REnv) : RSt -> Bool × RSt := stepG memF e
theorem stepF_sN (e : REnv) (s : RSt) : (stepF e s).2.sN <= s.sN + 1 := by
  unfold stepF stepG
  cases plB s.m.sz s.m.pl 4 with
  | false => exact Nat.le_succ _
  | true =>
    simp only [cond_true]
    cases (decA (w32 s.m)).err == 0 with
    | false => exact Nat.le_succ _
    | true =>
      simp only [cond_true]
      cases plainB (decA (w32 s.m)).q with
      | true => exact Nat.le_succ _
      | false =>
        simp only [cond_false]
        cases (decA (w32 s.m)).q == 55 with
        | true =>
          simp only [cond_true]
          unfold callR
          cases s.m.x 17 == 1 <;> cases s.m.x 17 == 2 <;> cases (s.m.x 17 == 3 || (s.m.x 17 == 4 || s.m.x 17 == 5)) <;> cases (e.bi && Nat.blt s.ik e.L0) <;> exact Nat.le_succ _
        | false =>
          simp only [cond_false]
          unfold memF
          cases plB s.m.sz (atM s.m (decA (w32 s.m)).c) (sizeF (decA (w32 s.m)).q) with
          | false => exact Nat.le_succ _
          | true => cases e.wt <;> first | exact Nat.le_succ _ | exact Nat.le_refl _
theorem stepF_no (e : REnv) (s : RSt) (h : (stepF e s).1 = false) : (stepF e s).2.sN = s.sN := by
  revert h
  unfold stepF stepG
  cases plB s.m.sz s.m.pl 4 with
  | false => exact fun _ => rfl
  | true =>
    simp only [cond_true]
    cases (decA (w32 s.m)).err == 0 with
    | false => exact fun _ => rfl
    | true =>
      simp only [cond_true]
      cases plainB (decA (w32 s.m)).q with
      | true => exact fun h => by cases h
      | false =>
        simp only [cond_false]
        cases (decA (w32 s.m)).q == 55 with
        | true =>
          simp only [cond_true]
          unfold callR
          cases s.m.x 17 == 1 <;> cases s.m.x 17 == 2 <;> cases (s.m.x 17 == 3 || (s.m.x 17 == 4 || s.m.x 17 == 5)) <;> cases (e.bi && Nat.blt s.ik e.L0) <;> first | exact fun _ => rfl | exact fun h => by cases h
        | false =>
          simp only [cond_false]
          unfold memF
          cases plB s.m.sz (atM s.m (decA (w32 s.m)).c) (sizeF (decA (w32 s.m)).q) with
          | false => exact fun _ => rfl
          | true => exact fun h => by cases h
theorem steps_all (e : REnv) {fuel : Int} (hf : fuel <= 1000000000) : Steps48 e fuel (stepF e) (fun n s => BaseOK e n s /\ s.sN <= n) where
  se n s h := h.1.se
  go n s s' h hlt h0 hs := by
    obtain ⟨hb, hn⟩ := h
    obtain ⟨a, b⟩ := (next_of hb (by omega) (decU_all _) (memF_ok hb (by omega) hn)).1 hs
    refine ⟨a, b, ?_⟩
    have := stepF_sN e s
    rw [hs] at this
    simp only at this
    omega
  no n s s' h hlt h0 hs := by
    obtain ⟨hb, hn⟩ := h
    obtain ⟨a, b⟩ := (next_of hb (by omega) (decU_all _) (memF_ok hb (by omega) hn)).2 hs
    refine ⟨a, b, ?_⟩
    have := stepF_no e s (by rw [hs])
    rw [hs] at this
    simp only at this
    omega
def prog6 : List Int := [147, 8, 32, 0, 115, 0, 0, 0, 99, 74, 5, 0, 147, 8, 16, 0, 115, 0, 0, 0, 147, 130, 18, 0, 111, 240, 159, 254, 19, 133, 2, 0, 147, 8, 48, 0, 115, 0, 0, 0]
def mem6 (j : Nat) : Int := prog6.getD j 0
structure EI (e : REnv) (p a5 a10 a17 : Int) (ik oN : Nat) (s : RSt) : Prop where
  sz : s.m.sz = 64
  mem : s.m.mem = mem6
  pl : s.m.pl = p
  st : s.m.st = 0
  x0 : s.m.x 0 = 0
  x5 : s.m.x 5 = a5
  x10 : s.m.x 10 = a10
  x17 : s.m.x 17 = a17
  fik : s.ik = ik
  foN : s.oN = oN
  out : ∀ j, j < oN -> s.of j = IntKind.u8.wrap (IntKind.u64.wrap (e.inp (e.k0 + j)))
section
variable {e : REnv} {p a5 a10 a17 : Int} {ik oN : Nat} {s : RSt} (h : EI e p a5 a10 a17 ik oN s)
include h
end
section
variable {e : REnv} {a5 a10 a17 : Int} {ik oN : Nat} {s : RSt}
end
structure In6 (e : REnv) : Prop where
  byte : ∀ j, j < e.L0 -> 0 <= e.inp (e.k0 + j) /\ e.inp (e.k0 + j) < 256
  nil : e.bi = false -> e.L0 = 0
section
variable {e : REnv} (hin : In6 e) (hL : e.L0 <= 200)
end
def exI (bi : Bool) (b : Blk) : List (Nat × Blk) := bif bi then [(40, b)] else []
attribute [local congr] cond_ctx
section
variable (bi : Bool) (k L C T : Nat) (inp : Nat -> Int)
end
section
variable (bi : Bool) (k L C T : Nat) (inp : Nat -> Int)
end
def Ins.v (i : Ins) : Value := i18 i.op i.rd i.rs1 i.rs2 i.imm
abbrev L41 (N C : Nat) : Value := .slice (some ⟨41, 0, none⟩) N C
def w4 (w : Int) : Nat -> List Value := fun j => slab [.int .u8 (IntKind.u8.wrap w), .int .u8 (IntKind.u8.wrap (w.fdiv 256)), .int .u8 (IntKind.u8.wrap (w.fdiv 65536)), .int .u8 (IntKind.u8.wrap (w.fdiv 16777216))] ((0 + j) * 1) 1
section
variable (E : Ins -> Int × Int) (N C T i : Nat) (J : Nat -> Ins) (oN : Nat) (of : Nat -> Int)
end
def byteOf (w : Int) : Nat -> Int
  | 0 => IntKind.u8.wrap w
  | 1 => IntKind.u8.wrap (w.fdiv 256)
  | 2 => IntKind.u8.wrap (w.fdiv 65536)
  | _ => IntKind.u8.wrap (w.fdiv 16777216)
theorem w4_eq (w : Int) : ∀ j, j < 4 -> w4 w j = [.int .u8 (byteOf w j)]
  | 0, _ => rfl
  | 1, _ => rfl
  | 2, _ => rfl
  | 3, _ => rfl
  | j + 4, h => by omega
def add4 (of : Nat -> Int) (n : Nat) (w : Int) : Nat -> Int := fun j => bif Nat.blt j n then of j else byteOf w (j - n)
theorem bis_add {P : Program} {σ : Nm} {n : Nat} {of : Nat -> Int} {w : Int} {f : Nat -> List Value} (hf : ∀ j, j < n -> f j = [.int .u8 (of j)]) : BIs P σ (outB (n + 4) (add4 of n w)) (.rows (n + 4) 1 (rowCat f 0 n (w4 w)) true false) := by
  refine ⟨rfl, rfl, fun j hj => ?_, .inl rfl, .inr rfl⟩
  show _ = cond (Nat.blt j n) (f (0 + j)) (w4 w (j - n))
  by_cases h : j < n
  · rw [lt_blt h, cond_true, Nat.zero_add, hf j h]
    show [Value.int .u8 (add4 of n w j)] = _
    unfold add4; rw [lt_blt h]; rfl
  · have hb : Nat.blt j n = false := by rw [blt_dec]; simp; omega
    rw [hb, cond_false, w4_eq w _ (by omega)]
    show [Value.int .u8 (add4 of n w j)] = _
    unfold add4; rw [hb]; rfl
abbrev L60 (N C : Nat) : Value := .slice (some ⟨60, 0, none⟩) N C
end Go.X
