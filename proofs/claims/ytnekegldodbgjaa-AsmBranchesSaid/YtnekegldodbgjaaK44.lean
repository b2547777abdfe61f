import Derived.Test.YtnekegldodbgjaaK43
import Derived.Test.YtnekegldodbgjaaK42
import Derived.Test.YtnekegldodbgjaaK18
import Derived.Test.YtnekegldodbgjaaK28
set_option linter.all false
namespace Go.X
open Go Go.Proofs
theorem decA_of {q w : Int} {c : Cand} (hq : tabHas shTab (.int .i64 q) = true) (h : dec1 q w = some c) : decA w = ⟨q, c, 0⟩ := by
  unfold decA
  rw [decU_all w q c hq h]
theorem encdec_in {rd rs1 rs2 imm w : Int} : ∀ k : Nat, encF (.ofNat k) rd rs1 rs2 imm = (w, 0) -> decA w = ⟨.ofNat k, ⟨rd, rs1, rs2, imm⟩, 0⟩
  | 0, h => by have e : ((0 : Int), (2 : Int)) = (w, 0) := h; cases e
  | 1, h => decA_of (by kernel_rfl) (encdecR (fld rfl) (by kernel_rfl) (fun _ _ _ _ => rfl) h)
  | 2, h => decA_of (by kernel_rfl) (encdecR (fld rfl) (by kernel_rfl) (fun _ _ _ _ => rfl) h)
  | 3, h => decA_of (by kernel_rfl) (encdecR (fld rfl) (by kernel_rfl) (fun _ _ _ _ => rfl) h)
  | 4, h => decA_of (by kernel_rfl) (encdecR (fld rfl) (by kernel_rfl) (fun _ _ _ _ => rfl) h)
  | 5, h => decA_of (by kernel_rfl) (encdecR (fld rfl) (by kernel_rfl) (fun _ _ _ _ => rfl) h)
  | 6, h => decA_of (by kernel_rfl) (encdecR (fld rfl) (by kernel_rfl) (fun _ _ _ _ => rfl) h)
  | 7, h => decA_of (by kernel_rfl) (encdecR (fld rfl) (by kernel_rfl) (fun _ _ _ _ => rfl) h)
  | 8, h => decA_of (by kernel_rfl) (encdecR (fld rfl) (by kernel_rfl) (fun _ _ _ _ => rfl) h)
  | 9, h => decA_of (by kernel_rfl) (encdecR (fld rfl) (by kernel_rfl) (fun _ _ _ _ => rfl) h)
  | 10, h => decA_of (by kernel_rfl) (encdecR (fld rfl) (by kernel_rfl) (fun _ _ _ _ => rfl) h)
  | 11, h => decA_of (by kernel_rfl) (encdecR (fld rfl) (by kernel_rfl) (fun _ _ _ _ => rfl) h)
  | 12, h => decA_of (by kernel_rfl) (encdecR (fld rfl) (by kernel_rfl) (fun _ _ _ _ => rfl) h)
  | 13, h => decA_of (by kernel_rfl) (encdecR (fld rfl) (by kernel_rfl) (fun _ _ _ _ => rfl) h)
  | 14, h => decA_of (by kernel_rfl) (encdecR (fld rfl) (by kernel_rfl) (fun _ _ _ _ => rfl) h)
  | 15, h => decA_of (by kernel_rfl) (encdecR (fld rfl) (by kernel_rfl) (fun _ _ _ _ => rfl) h)
  | 16, h => decA_of (by kernel_rfl) (encdecR (fld rfl) (by kernel_rfl) (fun _ _ _ _ => rfl) h)
  | 17, h => decA_of (by kernel_rfl) (encdecR (fld rfl) (by kernel_rfl) (fun _ _ _ _ => rfl) h)
  | 18, h => decA_of (by kernel_rfl) (encdecR (fld rfl) (by kernel_rfl) (fun _ _ _ _ => rfl) h)
  | 19, h => decA_of (by kernel_rfl) (encdecR (fld rfl) (by kernel_rfl) (fun _ _ _ _ => rfl) h)
  | 20, h => decA_of (by kernel_rfl) (encdecR (fld rfl) (by kernel_rfl) (fun _ _ _ _ => rfl) h)
  | 21, h => decA_of (by kernel_rfl) (encdecR (fld rfl) (by kernel_rfl) (fun _ _ _ _ => rfl) h)
  | 22, h => decA_of (by kernel_rfl) (encdecR (fld rfl) (by kernel_rfl) (fun _ _ _ _ => rfl) h)
  | 23, h => decA_of (by kernel_rfl) (encdecR (fld rfl) (by kernel_rfl) (fun _ _ _ _ => rfl) h)
  | 24, h => decA_of (by kernel_rfl) (encdecR (fld rfl) (by kernel_rfl) (fun _ _ _ _ => rfl) h)
  | 25, h => decA_of (by kernel_rfl) (encdecR (fld rfl) (by kernel_rfl) (fun _ _ _ _ => rfl) h)
  | 26, h => decA_of (by kernel_rfl) (encdecR (fld rfl) (by kernel_rfl) (fun _ _ _ _ => rfl) h)
  | 27, h => decA_of (by kernel_rfl) (encdecR (fld rfl) (by kernel_rfl) (fun _ _ _ _ => rfl) h)
  | 28, h => decA_of (by kernel_rfl) (encdecI (fld rfl) (by kernel_rfl) (fun _ _ _ _ => rfl) h)
  | 29, h => decA_of (by kernel_rfl) (encdecI (fld rfl) (by kernel_rfl) (fun _ _ _ _ => rfl) h)
  | 30, h => decA_of (by kernel_rfl) (encdecI (fld rfl) (by kernel_rfl) (fun _ _ _ _ => rfl) h)
  | 31, h => decA_of (by kernel_rfl) (encdecI (fld rfl) (by kernel_rfl) (fun _ _ _ _ => rfl) h)
  | 32, h => decA_of (by kernel_rfl) (encdecI (fld rfl) (by kernel_rfl) (fun _ _ _ _ => rfl) h)
  | 33, h => decA_of (by kernel_rfl) (encdecI (fld rfl) (by kernel_rfl) (fun _ _ _ _ => rfl) h)
  | 34, h => decA_of (by kernel_rfl) (encdecT (fld rfl) rfl (by kernel_rfl) (fun _ _ _ _ => rfl) h)
  | 35, h => decA_of (by kernel_rfl) (encdecT (fld rfl) rfl (by kernel_rfl) (fun _ _ _ _ => rfl) h)
  | 36, h => decA_of (by kernel_rfl) (encdecT (fld rfl) rfl (by kernel_rfl) (fun _ _ _ _ => rfl) h)
  | 37, h => decA_of (by kernel_rfl) (encdecI (fld rfl) (by kernel_rfl) (fun _ _ _ _ => rfl) h)
  | 38, h => decA_of (by kernel_rfl) (encdecI (fld rfl) (by kernel_rfl) (fun _ _ _ _ => rfl) h)
  | 39, h => decA_of (by kernel_rfl) (encdecI (fld rfl) (by kernel_rfl) (fun _ _ _ _ => rfl) h)
  | 40, h => decA_of (by kernel_rfl) (encdecI (fld rfl) (by kernel_rfl) (fun _ _ _ _ => rfl) h)
  | 41, h => decA_of (by kernel_rfl) (encdecI (fld rfl) (by kernel_rfl) (fun _ _ _ _ => rfl) h)
  | 42, h => decA_of (by kernel_rfl) (encdecS (fld rfl) (by kernel_rfl) (fun _ _ _ _ => rfl) h)
  | 43, h => decA_of (by kernel_rfl) (encdecS (fld rfl) (by kernel_rfl) (fun _ _ _ _ => rfl) h)
  | 44, h => decA_of (by kernel_rfl) (encdecS (fld rfl) (by kernel_rfl) (fun _ _ _ _ => rfl) h)
  | 45, h => decA_of (by kernel_rfl) (encdecB (fld rfl) (by kernel_rfl) (fun _ _ _ _ => rfl) h)
  | 46, h => decA_of (by kernel_rfl) (encdecB (fld rfl) (by kernel_rfl) (fun _ _ _ _ => rfl) h)
  | 47, h => decA_of (by kernel_rfl) (encdecB (fld rfl) (by kernel_rfl) (fun _ _ _ _ => rfl) h)
  | 48, h => decA_of (by kernel_rfl) (encdecB (fld rfl) (by kernel_rfl) (fun _ _ _ _ => rfl) h)
  | 49, h => decA_of (by kernel_rfl) (encdecB (fld rfl) (by kernel_rfl) (fun _ _ _ _ => rfl) h)
  | 50, h => decA_of (by kernel_rfl) (encdecB (fld rfl) (by kernel_rfl) (fun _ _ _ _ => rfl) h)
  | 51, h => decA_of (by kernel_rfl) (encdecU (fld rfl) (by kernel_rfl) (fun _ _ _ _ => rfl) h)
  | 52, h => decA_of (by kernel_rfl) (encdecU (fld rfl) (by kernel_rfl) (fun _ _ _ _ => rfl) h)
  | 53, h => decA_of (by kernel_rfl) (encdecJ (fld rfl) (by kernel_rfl) (fun _ _ _ _ => rfl) h)
  | 54, h => decA_of (by kernel_rfl) (encdecI (fld rfl) (by kernel_rfl) (fun _ _ _ _ => rfl) h)
  | 55, h => decA_of (by kernel_rfl) (encdecN (fld rfl) (by kernel_rfl) (fun _ _ _ _ => rfl) h)
  | k + 56, h => by rw [encF_big] at h; cases h
theorem encdec {op rd rs1 rs2 imm w : Int} (h : encF op rd rs1 rs2 imm = (w, 0)) : decA w = ⟨op, ⟨rd, rs1, rs2, imm⟩, 0⟩ := by
  cases op with
  | ofNat k => exact encdec_in k h
  | negSucc m => rw [encF_neg] at h; cases h
def wB (T : Nat) (W : Nat -> Int) : Blk := .rows T 1 (fun j => [.int .u32 (W j)]) false true
section
variable (N C T i oN : Nat) (W of : Nat -> Int)
theorem p38_a : walk (lookF FL) noSc 1000 x38 (argTm 0 [L41 N C]) (mkH [(41, wB T W)]) 100 j0_ j0_ ⟨[8, 3, 7, 6], [], [], [41]⟩ =
    some ⟨⟨[some (true, .int .i64 0), some (true, .slice none 0 0), some (true, .int .i64 (N : Int)), some (true, L41 N C)], [], .normal, 100⟩, some (x38_12, [.bl 0, .sq x38_17])⟩ := by kernel_rfl
theorem p38_n : walk (lookF FL) noSc 1000 x38_12 (mkT [8, 3, 7, 6] [.int .i64 (i : Int), .slice none 0 0, .int .i64 (N : Int), L41 N C]) (mkH [(41, wB T W)]) 102 ⟨[8, 3], [.tmp 3], [7, 6], [41]⟩ j0_ j0_ =
    bif decide ((i : Int) < (N : Int)) then bif ((0 + i).blt T && true || false) && ((intRange (i : Int) N && true || false) && true) then
      some ⟨⟨[some (true, .int .i64 (IntKind.i64.wrap ((i : Int) + 1))), some (true, newS 103 4)], [(103, some (.rows 4 1 (rowCat (fun _ => []) 0 0 (w4 (W (0 + i)))) true false))], .normal, 104⟩, none⟩ else none else none := by kernel_rfl
theorem p38_b : walk (lookF FL) noSc 1000 x38_12 (mkT [8, 3, 7, 6] [.int .i64 (i : Int), newS 101 oN, .int .i64 (N : Int), L41 N C]) (mkH [(101, outB oN of), (41, wB T W)]) 102 ⟨[8, 3], [.tmp 3], [7, 6], [41]⟩ j0_ j0_ =
    bif decide ((i : Int) < (N : Int)) then bif ((0 + i).blt T && true || false) && ((intRange (i : Int) N && true || false) && true) then bif !(oN + 4).ble oN && true && (oN.ble oN && (0 + oN).ble oN) && true && decide ((oN + 4) * 3 <= 1099511627776) && true && true then
      some ⟨⟨[some (true, .int .i64 (IntKind.i64.wrap ((i : Int) + 1))), some (true, newS 103 (oN + 4))], [(103, some (.rows (oN + 4) 1 (rowCat (fun j => [.int .u8 (of j)]) 0 oN (w4 (W (0 + i)))) true false))], .normal, 104⟩, none⟩ else none else none
    else some ⟨⟨[some (true, .int .i64 (i : Int)), some (true, newS 101 oN)], [(101, some (outB oN of))], .exit 0, 102⟩, none⟩ := by kernel_rfl
theorem p38_e : walk (lookF FL) noSc 1000 x38_17 (mkT [8, 3, 7, 6] [.int .i64 (i : Int), newS 101 oN, .int .i64 (N : Int), L41 N C]) (mkH [(101, outB oN of), (41, wB T W)]) 102 j0_ ⟨[2], [.tmp 3], [], []⟩ j0_ =
    some ⟨⟨[some (true, newS 101 oN)], [(101, some (outB oN of))], .ret, 102⟩, none⟩ := by kernel_rfl
end
def bw (W : Nat -> Int) : Nat -> Nat -> Int
  | 0 => fun _ => 0
  | i + 1 => add4 (bw W i) (4 * i) (W i)
def S38 (N C T : Nat) (W : Nat -> Int) : Nat -> St
  | 0 => ⟨mkT [8, 3, 7, 6] [.int .i64 ((0 : Nat) : Int), .slice none 0 0, .int .i64 (N : Int), L41 N C], mkH [(41, wB T W)], 102⟩
  | i + 1 => ⟨mkT [8, 3, 7, 6] [.int .i64 ((i + 1 : Nat) : Int), newS 101 (4 * (i + 1)), .int .i64 (N : Int), L41 N C], mkH [(101, outB (4 * (i + 1)) (bw W (i + 1))), (41, wB T W)], 102⟩
theorem bis_wB {P : Program} {σ : Nm} {T : Nat} {W : Nat -> Int} : BIs P σ (wB T W) (wB T W) := bis_rw fun _ _ => rfl
theorem bw_at (W : Nat -> Int) : ∀ N j, j < 4 * N -> bw W N j = byteOf (W (j / 4)) (j % 4)
  | 0, j, h => by omega
  | N + 1, j, h => by
    show (bif Nat.blt j (4 * N) then bw W N j else byteOf (W N) (j - 4 * N)) = _
    by_cases h1 : j < 4 * N
    · rw [lt_blt h1, cond_true, bw_at W N j h1]
    · rw [blt_ff h1, cond_false, show j / 4 = N by omega, show j - 4 * N = j % 4 by omega]
theorem b38 {N C T : Nat} {W : Nat -> Int} (h0 : 0 < N) (hT : N <= T) (hN : N <= 10000000000) :
    Body Try.prog 38 [L41 N C] (mkH [(41, wB T W)]) (newS 100 (4 * N)) (mkH [(100, outB (4 * N) (bw W N))]) 100 1 := by
  refine body_of_ro [] mixed fx38 (by simp) ?_ fun E Q hP hn hcl hfin => ?_
  · intro id blk h hro
    simp only [mkH, hget] at h
    revert h
    cases Nat.beq 41 id <;> intro h
    · cases h
    · cases h; cases hro
  have hF : FnsOK E.P (lookF FL) noSc := hP ▸ FOK
  refine xwp_toLoop (s := ⟨_, _, _⟩) hF 1000 (p38_a N C T W) (S38 N C T W 0) ⟨_, [(41, wB T W)], 102, rfl, by rw [hn]; rfl, by rw [hn]; exact ⟨rfl, rfl, rfl, rfl, trivial⟩, by rw [hn, hP]; exact ⟨bis_wB, trivial⟩⟩ ?_
  refine xwp_loopR (ι := Nat) (S38 N C T W) (fun i => i <= N) (fun i => N - i) 0 (Nat.zero_le _) fun i hi => ?_
  have hcr := cl_round (S := S38 N C T W) (I := fun i => i <= N) (μ := fun i => N - i) (i := i) (cl_ctx hcl [.bl 0, .sq x38_17])
  match i, hi with
  | 0, _ =>
    have e := p38_n N C T 0 W
    have i2 : intRange ((0 : Nat) : Int) N = true := by rw [ir_nat]; exact decide_eq_true h0
    rw [decide_eq_true (show ((0 : Nat) : Int) < N by omega), i2, Nat.zero_add, lt_blt (show 0 < T by omega)] at e
    simp only [Bool.and_self, Bool.or_false, cond_true] at e
    have hb : ∀ {σ : Nm}, BIs Try.prog σ (outB (4 * (0 + 1)) (bw W (0 + 1))) (.rows 4 1 (rowCat (fun _ => []) 0 0 (w4 (W 0))) true false) := fun {σ} => bis_add (n := 0) (of := bw W 0) (w := W 0) (fun j hj => absurd hj (Nat.not_lt_zero _))
    exact xwp_toEnd (s := S38 N C T W 0) hcr hF 1000 e (S38 N C T W 1) ⟨_, [(101, outB (4 * (0 + 1)) (bw W (0 + 1))), (41, wB T W)], 102, rfl, by rw [hn]; rfl, by rw [hn]; exact ⟨rfl, rfl, rfl, rfl, trivial⟩, by rw [hn, hP]; exact ⟨hb, bis_wB, trivial⟩⟩ ⟨1, by omega, by simp only; omega, Wk.refl _ _⟩
  | k + 1, hk =>
    have e := p38_b N C T (k + 1) (4 * (k + 1)) W (bw W (k + 1))
    by_cases hlt : k + 1 < N
    · have i2 : intRange ((k + 1 : Nat) : Int) N = true := by rw [ir_nat]; exact decide_eq_true hlt
      rw [decide_eq_true (show ((k + 1 : Nat) : Int) < N by omega), i2, Nat.zero_add, lt_blt (show k + 1 < T by omega), wrap_i (n := ((k + 1 : Nat) : Int) + 1) (by omega) (by omega),
        show (4 * (k + 1) + 4).ble (4 * (k + 1)) = false by rw [ble_dec]; simp, show (4 * (k + 1)).ble (4 * (k + 1)) = true by rw [ble_dec]; simp, Nat.zero_add, show (4 * (k + 1)).ble (4 * (k + 1)) = true by rw [ble_dec]; simp, decide_eq_true (show (4 * (k + 1) + 4) * 3 <= 1099511627776 by omega)] at e
      simp only [Bool.and_self, Bool.or_false, Bool.not_false, cond_true] at e
      have hb : ∀ {σ : Nm}, BIs Try.prog σ (outB (4 * (k + 1 + 1)) (bw W (k + 1 + 1))) (.rows (4 * (k + 1) + 4) 1 (rowCat (fun j => [.int .u8 (bw W (k + 1) j)]) 0 (4 * (k + 1)) (w4 (W (k + 1)))) true false) := fun {σ} => bis_add (n := 4 * (k + 1)) (of := bw W (k + 1)) (w := W (k + 1)) (fun j hj => rfl)
      exact xwp_toEnd (s := S38 N C T W (k + 1)) hcr hF 1000 e (S38 N C T W (k + 1 + 1)) ⟨_, [(101, outB (4 * (k + 1 + 1)) (bw W (k + 1 + 1))), (41, wB T W)], 102, rfl, by rw [hn]; rfl, by rw [hn]; exact ⟨rfl, rfl, rfl, rfl, trivial⟩, by rw [hn, hP]; exact ⟨hb, bis_wB, trivial⟩⟩ ⟨k + 1 + 1, by omega, by simp only; omega, Wk.refl _ _⟩
    · have : k + 1 = N := by omega
      subst this
      rw [decide_eq_false (show ¬ ((k + 1 : Nat) : Int) < (k + 1 : Nat) by omega), cond_false] at e
      refine xwp_toEnd (s := S38 (k + 1) C T W (k + 1)) hcr hF 1000 e (S38 (k + 1) C T W (k + 1)) ⟨_, [(101, outB (4 * (k + 1)) (bw W (k + 1))), (41, wB T W)], 102, rfl, by rw [hn]; rfl, by rw [hn]; exact ⟨rfl, rfl, rfl, rfl, trivial⟩, by rw [hn, hP]; exact ⟨bis_outB, bis_wB, trivial⟩⟩ ?_
      show XWP E.toEnv x38_17 Q (S38 (k + 1) C T W (k + 1))
      exact xwp_toEnd (s := S38 (k + 1) C T W (k + 1)) hcl hF 1000 (p38_e (k + 1) C T (k + 1) (4 * (k + 1)) W (bw W (k + 1))) ⟨mkT [2] [newS 100 (4 * (k + 1))], mkH [(100, outB (4 * (k + 1)) (bw W (k + 1)))], 101⟩ ⟨_, [(100, outB (4 * (k + 1)) (bw W (k + 1)))], 101, rfl, by rw [hn]; rfl, by rw [hn]; exact ⟨rfl, trivial⟩, by rw [hn, hP]; exact ⟨bis_outB, trivial⟩⟩ (hfin _ _ (fin_of rfl (by exact ⟨rfl, trivial⟩) (by rw [hn]) rfl))
section
variable (I : Its)
theorem keq_self (s : ByteArray) : keq (.string s) (.string s) = true := (keq_eq (d := .string) rfl rfl).2 rfl
variable (N : Nat)
variable {I N}
end
section
variable {I : Its} {N : Nat}
end
section
variable (n : Nat)
theorem isE_nil : isE ⟨#[]⟩ = true := by kernel_rfl
end
section
variable (n : Nat)
variable {x : Int} (hx : ∃ t, x = 4 * t /\ 0 <= t /\ t < 1000000) (hn : n < 1500)
include hx hn
end
section
variable {t n : Nat} (ht : t < 1000) (hn : n < 1500)
include ht hn
end
def mW (W : Nat -> Int) (k sz : Nat) : MS := newM 0 (4 * k) (bw W k) sz
theorem byteOf_X (w : Int) : ∀ j, j < 4 -> byteOf w j = byteX w j
  | 0, _ => by rw [show byteX w 0 = IntKind.u8.wrap (w.fdiv 1) from rfl, Int.fdiv_one]; rfl
  | 1, _ => rfl
  | 2, _ => rfl
  | 3, _ => rfl
  | j + 4, h => by omega
theorem w32_word {W : Nat -> Int} {k sz i : Nat} (hi : i < k) (hW : 0 <= W i /\ W i < 4294967296) {m : MS} (hm : m.mem = (mW W k sz).mem) (hp : m.pl = 4 * (i : Int)) : w32 m = W i := by
  unfold w32
  rw [hm, hp, show (4 * (i : Int)).toNat * 1 = 4 * i by omega]
  rw [num4_val hW.1 (by omega) fun j hj => by
    show (bif Nat.blt (4 * i + j) (4 * k) then bw W k (0 + (4 * i + j)) else 0) = _
    rw [lt_blt (by omega), cond_true, Nat.zero_add, bw_at W k _ (by omega), show (4 * i + j) / 4 = i by omega, show (4 * i + j) % 4 = j by omega, byteOf_X _ j hj]]
  rw [u32_wrap]; omega
theorem okI_dec {i : Ins} (h : okI i = true) : decA (encW i) = ⟨i.op, ⟨i.rd, i.rs1, i.rs2, i.imm⟩, 0⟩ := by
  refine encdec (Prod.ext rfl ?_)
  simpa [okI] using h
theorem stepP1 {w : Bool} {s : RSt} {q : Int} {c : Cand} (hp : plB s.m.sz s.m.pl 4 = true) (hd : decA (w32 s.m) = ⟨q, c, 0⟩) (h1 : plainB q = true) :
    stepF (e0 w) s = (true, { s with m := stepM s.m s.m.kn' q c, mark := markF q c s.mark }) := by
  unfold stepF stepG
  rw [hp, hd]
  simp only [cond_true, show ((0 : Int) == 0) = true from rfl, h1]
structure It1 where
  lb : ByteArray
  to : ByteArray
  op : Int
  rd : Int
  rs1 : Int
  rs2 : Int
  imm : Int
  part : Int
def itsR (g : Nat -> It1) : Its := ⟨fun k => (g k).lb, fun k => (g k).to, fun k => (g k).op, fun k => (g k).rd, fun k => (g k).rs1, fun k => (g k).rs2, fun k => (g k).imm, fun k => (g k).part⟩
def insI (op rd rs1 rs2 imm : Int) : It1 := ⟨⟨#[]⟩, ⟨#[]⟩, op, rd, rs1, rs2, imm, 0⟩
def gI : It1 := insI 28 7 7 0 1
def cat3 (a M : Nat) (p c : Nat -> It1) : Nat -> It1 := fun k => bif Nat.blt k a then p k else bif Nat.blt k M then gI else c (k - M)
section
variable {a M : Nat} {p c : Nat -> It1}
theorem cat_p {k : Nat} (h : k < a) : cat3 a M p c k = p k := by unfold cat3; rw [lt_blt h, cond_true]
theorem cat_m {k : Nat} (h1 : a <= k) (h2 : k < M) : cat3 a M p c k = gI := by unfold cat3; rw [blt_ff (by omega), cond_false, lt_blt h2, cond_true]
theorem cat_c (h : a <= M) (i : Nat) : cat3 a M p c (M + i) = c i := by unfold cat3; rw [blt_ff (by omega), cond_false, blt_ff (by omega), cond_false, Nat.add_sub_cancel_left]
end
theorem good_gI : goodF ⟨#[]⟩ 28 7 7 0 1 ⟨#[]⟩ 0 = true := by kernel_rfl
section
variable {g : Nat -> It1} {a M : Nat} (hg : ∀ k, a <= k -> k < M -> g k = gI)
include hg
theorem good_mid : ∀ j, a + j <= M -> goodTo (itsR g) (a + j) = goodTo (itsR g) a
  | 0, _ => rfl
  | j + 1, h => by
    show (goodTo (itsR g) (a + j) && goodF (g (a + j)).lb (g (a + j)).op (g (a + j)).rd (g (a + j)).rs1 (g (a + j)).rs2 (g (a + j)).imm (g (a + j)).to (g (a + j)).part) = _
    rw [good_mid j (by omega), hg (a + j) (by omega) (by omega)]
    show (_ && goodF ⟨#[]⟩ 28 7 7 0 1 ⟨#[]⟩ 0) = _
    rw [good_gI, Bool.and_true]
theorem found_mid (m : LMap) : ∀ j, a + j <= M -> foundTo (itsR g) m (a + j) = foundTo (itsR g) m a
  | 0, _ => rfl
  | j + 1, h => by
    show (foundTo (itsR g) m (a + j) && (isE (g (a + j)).to || _)) = _
    rw [found_mid m j (by omega), hg (a + j) (by omega) (by omega)]
    show (_ && (isE ⟨#[]⟩ || _)) = _
    rw [isE_nil, Bool.true_or, Bool.and_true]
theorem chk_mid {m : LMap} (h0 : (chkIt (itsR g) m a).m.has (.string ⟨#[]⟩) = false) : ∀ j, a + j <= M -> chkIt (itsR g) m (a + j) = chkIt (itsR g) m a
  | 0, _ => rfl
  | j + 1, h => by
    show chkStep (itsR g) (a + j) (chkIt (itsR g) m (a + j)) = _
    rw [chk_mid h0 j (by omega)]
    unfold chkStep
    rw [show (itsR g).lb (a + j) = ⟨#[]⟩ by show (g (a + j)).lb = _; rw [hg (a + j) (by omega) (by omega)]; rfl, h0, isE_nil]
    cases hd : (chkIt (itsR g) m a).dup with
    | true => rfl
    | false => simp only [cond_false, cond_true]; rw [<- hd]
theorem lay_mid {wd : Nat -> Bool} {s : LSt} (hw : ∀ k, a <= k -> k < M -> wd k = false) {c : Nat} (hc : (layIt (itsR g) wd s a).cur = (c : Int)) (hM : c + 4 * M < 1000000000) :
    ∀ j, a + j <= M -> (layIt (itsR g) wd s (a + j)).cur = ((c + 4 * j : Nat) : Int) /\ (layIt (itsR g) wd s (a + j)).m = (layIt (itsR g) wd s a).m
  | 0, _ => ⟨hc, rfl⟩
  | j + 1, h => by
    obtain ⟨h1, h2⟩ := lay_mid hw hc hM j (by omega)
    show (layStep (itsR g) wd (a + j) (layIt (itsR g) wd s (a + j))).cur = _ /\ (layStep (itsR g) wd (a + j) (layIt (itsR g) wd s (a + j))).m = _
    unfold layStep
    rw [show (itsR g).lb (a + j) = ⟨#[]⟩ by show (g (a + j)).lb = _; rw [hg (a + j) (by omega) (by omega)]; rfl, isE_nil, hw (a + j) (by omega) (by omega), h1, h2]
    exact ⟨by simp only [cond_true, cond_false]; rw [wrap_i (by omega) (by omega)]; omega, rfl⟩
theorem ins_mid (s : ASt) : ∀ j, a + j <= M -> insTo (itsR g) s (a + j) = insTo (itsR g) s a ++ List.replicate j ⟨28, 7, 7, 0, 1⟩
  | 0, _ => by simp
  | j + 1, h => by
    have hgj := hg (a + j) (by omega) (by omega)
    show insTo (itsR g) s (a + j) ++ (bif isE (g (a + j)).lb then insK (itsR g) s (a + j) (wordsN (itsR g) s.wd (a + j)) else []) = _
    have tw : wordsN (itsR g) s.wd (a + j) = 1 := by
      unfold wordsN twoF
      rw [show (itsR g).to (a + j) = ⟨#[]⟩ by show (g (a + j)).to = _; rw [hgj]; rfl, isE_nil]; rfl
    have wa : wordA (itsR g) s.wd s.m s.pl (a + j) = ⟨28, 7, 7, 0, 1⟩ := by
      unfold wordA
      rw [show (itsR g).to (a + j) = ⟨#[]⟩ by show (g (a + j)).to = _; rw [hgj]; rfl, isE_nil, cond_true]
      show (⟨(g (a + j)).op, (g (a + j)).rd, (g (a + j)).rs1, (g (a + j)).rs2, (g (a + j)).imm⟩ : Ins) = _
      rw [hgj]; rfl
    rw [ins_mid s j (by omega), hgj, show isE gI.lb = true from isE_nil, cond_true, tw, show insK (itsR g) s (a + j) 1 = [wordA (itsR g) s.wd s.m s.pl (a + j)] from rfl, wa, List.append_assoc, List.replicate_succ']
end
theorem lay_pl {I : Its} {wd : Nat -> Bool} {s : LSt} {j : Nat} : ∀ k, j < k -> (layIt I wd s k).pl j = (layIt I wd s j).cur
  | k + 1, h => by
    show (layStep I wd k (layIt I wd s k)).pl j = _
    have hu : (layStep I wd k (layIt I wd s k)).pl = upd (layIt I wd s k).pl k (layIt I wd s k).cur := by
      unfold layStep; cases isE (I.lb k) <;> rfl
    rw [hu]
    unfold upd
    by_cases e : j = k
    · subst e; rw [beq_tt]; rfl
    · rw [beq_ff e, cond_false]; exact lay_pl k (by omega)
section
variable {g c : Nat -> It1} {M : Nat} (hc : ∀ i, g (M + i) = c i)
include hc
theorem good_tail : ∀ t, goodTo (itsR g) (M + t) = (goodTo (itsR g) M && goodTo (itsR c) t)
  | 0 => by show goodTo (itsR g) M = _; simp [goodTo]
  | t + 1 => by
    show (goodTo (itsR g) (M + t) && goodK (itsR g) (M + t)) = (_ && (goodTo (itsR c) t && goodK (itsR c) t))
    rw [good_tail t, show goodK (itsR g) (M + t) = goodK (itsR c) t by unfold goodK; simp only [itsR, hc], Bool.and_assoc]
theorem found_tail (m : LMap) : ∀ t, foundTo (itsR g) m (M + t) = (foundTo (itsR g) m M && foundTo (itsR c) m t)
  | 0 => by show foundTo (itsR g) m M = _; simp [foundTo]
  | t + 1 => by
    show (foundTo (itsR g) m (M + t) && (isE (g (M + t)).to || m.has (.string (g (M + t)).to))) = (_ && (foundTo (itsR c) m t && (isE (c t).to || m.has (.string (c t).to))))
    rw [found_tail m t, hc, Bool.and_assoc]
theorem chk_tail {m m' : LMap} (h : chkIt (itsR g) m M = ⟨m', false⟩) : ∀ t, chkIt (itsR g) m (M + t) = chkIt (itsR c) m' t
  | 0 => h
  | t + 1 => by
    show chkStep (itsR g) (M + t) (chkIt (itsR g) m (M + t)) = chkStep (itsR c) t (chkIt (itsR c) m' t)
    rw [chk_tail h t]
    unfold chkStep
    simp only [itsR, hc]
theorem lay_tail {wd : Nat -> Bool} {s s' : LSt} (h1 : (layIt (itsR g) wd s M).cur = s'.cur) (h2 : (layIt (itsR g) wd s M).m = s'.m) :
    ∀ t, (layIt (itsR g) wd s (M + t)).cur = (layIt (itsR c) (fun i => wd (M + i)) s' t).cur /\ (layIt (itsR g) wd s (M + t)).m = (layIt (itsR c) (fun i => wd (M + i)) s' t).m
  | 0 => ⟨h1, h2⟩
  | t + 1 => by
    obtain ⟨a, b⟩ := lay_tail h1 h2 t
    show (layStep (itsR g) wd (M + t) (layIt (itsR g) wd s (M + t))).cur = (layStep (itsR c) (fun i => wd (M + i)) t (layIt (itsR c) (fun i => wd (M + i)) s' t)).cur /\ (layStep (itsR g) wd (M + t) (layIt (itsR g) wd s (M + t))).m = (layStep (itsR c) (fun i => wd (M + i)) t (layIt (itsR c) (fun i => wd (M + i)) s' t)).m
    unfold layStep
    rw [show (itsR g).lb (M + t) = (c t).lb by show (g (M + t)).lb = _; rw [hc], show (itsR c).lb t = (c t).lb from rfl]
    cases isE (c t).lb
    · exact ⟨a, by simp only [cond_false]; rw [a, b]⟩
    · exact ⟨by simp only [cond_true]; rw [a], by simp only [cond_true]; exact b⟩
theorem ins_tail (s : ASt) : ∀ t, insTo (itsR g) s (M + t) = insTo (itsR g) s M ++ insTo (itsR c) ⟨fun i => s.wd (M + i), s.m, fun i => s.pl (M + i)⟩ t
  | 0 => by show insTo (itsR g) s M = _; simp [insTo]
  | t + 1 => by
    show insTo (itsR g) s (M + t) ++ (bif isE (g (M + t)).lb then insK (itsR g) s (M + t) (wordsN (itsR g) s.wd (M + t)) else []) = _ ++ (insTo (itsR c) _ t ++ (bif isE (c t).lb then insK (itsR c) _ t (wordsN (itsR c) (fun i => s.wd (M + i)) t) else []))
    rw [ins_tail s t, hc, List.append_assoc]
    have e1 : wordsN (itsR g) s.wd (M + t) = wordsN (itsR c) (fun i => s.wd (M + i)) t := by unfold wordsN twoF; simp only [itsR, hc]
    have e2 : ∀ j, insK (itsR g) s (M + t) j = insK (itsR c) ⟨fun i => s.wd (M + i), s.m, fun i => s.pl (M + i)⟩ t j := fun j => by
      unfold insK
      refine congrArg (fun f => (List.range j).map f) (funext fun i => ?_)
      unfold wordI wordA wordJ
      simp only [itsR, hc]
    rw [e1, e2]
end
theorem wid_nob {I : Its} {m : LMap} {pl : Nat -> Int} {s : WSt} {b : Nat} : ∀ t, (∀ k, b <= k -> k < b + t -> branchF (I.op k) = false) -> widIt I m pl s (b + t) = widIt I m pl s b
  | 0, _ => rfl
  | t + 1, h => by
    show widStep I m pl (b + t) (widIt I m pl s (b + t)) = _
    rw [wid_nob t fun k h1 h2 => h k h1 (by omega)]
    unfold widStep farF
    rw [h (b + t) (by omega) (by omega)]
    simp
def sEnd : ByteArray := ⟨#[101, 110, 100]⟩
def sBeg : ByteArray := ⟨#[98, 101, 103, 105, 110]⟩
def lbI (s : ByteArray) : It1 := ⟨s, ⟨#[]⟩, 0, 0, 0, 0, 0, 0⟩
def toI (s : ByteArray) (op rs1 rs2 : Int) : It1 := ⟨⟨#[]⟩, s, op, 0, rs1, rs2, 0, 0⟩
def fwC : Nat -> It1
  | 0 => insI 28 17 0 0 3
  | 1 => insI 55 0 0 0 0
  | 2 => lbI sEnd
  | 3 => insI 28 10 0 0 1
  | 4 => insI 28 17 0 0 3
  | _ => insI 55 0 0 0 0
def bwP : Nat -> It1
  | 0 => toI sBeg 53 0 0
  | 1 => lbI sEnd
  | 2 => insI 28 10 0 0 1
  | 3 => insI 28 17 0 0 3
  | _ => insI 55 0 0 0 0
def bwC (q : Int) : Nat -> It1
  | 0 => lbI sBeg
  | 1 => toI sEnd q 5 6
  | 2 => insI 28 17 0 0 3
  | _ => insI 55 0 0 0 0
def fwG (q : Int) (M : Nat) : Nat -> It1 := cat3 1 M (fun _ => toI sEnd q 5 6) fwC
def bwG (q : Int) (M : Nat) : Nat -> It1 := cat3 5 M bwP (bwC q)
theorem good_17 : goodF ⟨#[]⟩ 28 17 0 0 3 ⟨#[]⟩ 0 = true := by kernel_rfl
theorem good_55 : goodF ⟨#[]⟩ 55 0 0 0 0 ⟨#[]⟩ 0 = true := by kernel_rfl
theorem good_beg : goodF sBeg 0 0 0 0 0 ⟨#[]⟩ 0 = true := by kernel_rfl
theorem good_br : ∀ k : Nat, k < 6 -> goodF ⟨#[]⟩ (.ofNat (45 + k)) 0 5 6 0 sEnd 0 = true
  | 0, _ => by kernel_rfl
  | 1, _ => by kernel_rfl
  | 2, _ => by kernel_rfl
  | 3, _ => by kernel_rfl
  | 4, _ => by kernel_rfl
  | 5, _ => by kernel_rfl
  | k + 6, h => by omega
theorem good_br' {q : Int} (h : 45 <= q /\ q <= 50) : goodF ⟨#[]⟩ q 0 5 6 0 sEnd 0 = true := by
  have := good_br (q - 45).toNat (by omega)
  rwa [show (Int.ofNat (45 + (q - 45).toNat)) = q by show (((45 + (q - 45).toNat : Nat)) : Int) = q; omega] at this
def mE (v : Int) : LMap := m0.set sEnd v
def mB (v u : Int) : LMap := (m0.set sEnd v).set sBeg u
theorem bad_0 : badAt 0 = false := by kernel_rfl
theorem fwC_chk : chkIt (itsR fwC) m0 6 = ⟨mE 0, false⟩ := by kernel_rfl
theorem fwC_good : goodTo (itsR fwC) 6 = true := by kernel_rfl
theorem fwC_found : foundTo (itsR fwC) (mE 0) 6 = true := by kernel_rfl
section
variable (q : Int) (M : Nat)
theorem fw_chk1 : chkIt (itsR (fwG q M)) m0 1 = ⟨m0, false⟩ := by kernel_rfl
theorem fw_found1 : foundTo (itsR (fwG q M)) (mE 0) 1 = true := by kernel_rfl
theorem bw_chk5 : chkIt (itsR (bwG q M)) m0 5 = ⟨mE 0, false⟩ := by kernel_rfl
theorem bw_good5 : goodTo (itsR (bwG q M)) 5 = true := by kernel_rfl
theorem bw_found5 : foundTo (itsR (bwG q M)) (mB 0 0) 5 = true := by kernel_rfl
theorem bwC_chk : chkIt (itsR (bwC q)) (mE 0) 4 = ⟨mB 0 0, false⟩ := by kernel_rfl
theorem bwC_found : foundTo (itsR (bwC q)) (mB 0 0) 4 = true := by kernel_rfl
variable {q} {M} (hq : 45 <= q /\ q <= 50)
theorem fw_mid (k : Nat) (h1 : 1 <= k) (h2 : k < M) : fwG q M k = gI := cat_m h1 h2
theorem bw_mid (k : Nat) (h1 : 5 <= k) (h2 : k < M) : bwG q M k = gI := cat_m h1 h2
theorem fw_c (h : 1 <= M) (i : Nat) : fwG q M (M + i) = fwC i := cat_c h i
theorem bw_c (h : 5 <= M) (i : Nat) : bwG q M (M + i) = bwC q i := cat_c h i
include hq
theorem bwC_good : goodTo (itsR (bwC q)) 4 = true := by
  show ((((true && goodF sBeg 0 0 0 0 0 ⟨#[]⟩ 0) && goodF ⟨#[]⟩ q 0 5 6 0 sEnd 0) && goodF ⟨#[]⟩ 28 17 0 0 3 ⟨#[]⟩ 0) && goodF ⟨#[]⟩ 55 0 0 0 0 ⟨#[]⟩ 0) = true
  rw [good_beg, good_br' hq, good_17, good_55]; rfl
theorem fw_good (h : 1 <= M) : goodTo (itsR (fwG q M)) (M + 6) = true := by
  obtain ⟨j, rfl⟩ := Nat.exists_eq_add_of_le h
  rw [good_tail (fw_c h) 6, fwC_good, good_mid fw_mid j (Nat.le_refl _)]
  show ((true && goodF ⟨#[]⟩ q 0 5 6 0 sEnd 0) && true) = true
  rw [good_br' hq]; rfl
theorem bw_good (h : 5 <= M) : goodTo (itsR (bwG q M)) (M + 4) = true := by
  obtain ⟨j, rfl⟩ := Nat.exists_eq_add_of_le h
  rw [good_tail (bw_c h) 4, bwC_good hq, good_mid bw_mid j (Nat.le_refl _), bw_good5]; rfl
omit hq in
theorem fw_chk (h : 1 <= M) : chkIt (itsR (fwG q M)) m0 (M + 6) = ⟨mE 0, false⟩ := by
  obtain ⟨j, rfl⟩ := Nat.exists_eq_add_of_le h
  rw [chk_tail (fw_c h) (m' := m0) (by rw [chk_mid fw_mid (by rw [fw_chk1]; rfl) j (Nat.le_refl _), fw_chk1]) 6, fwC_chk]
omit hq in
theorem bw_chk (h : 5 <= M) : chkIt (itsR (bwG q M)) m0 (M + 4) = ⟨mB 0 0, false⟩ := by
  obtain ⟨j, rfl⟩ := Nat.exists_eq_add_of_le h
  rw [chk_tail (bw_c h) (m' := mE 0) (by rw [chk_mid bw_mid (by rw [bw_chk5]; kernel_rfl) j (Nat.le_refl _), bw_chk5]) 4, bwC_chk]
omit hq in
theorem fw_found (h : 1 <= M) : foundTo (itsR (fwG q M)) (mE 0) (M + 6) = true := by
  obtain ⟨j, rfl⟩ := Nat.exists_eq_add_of_le h
  rw [found_tail (fw_c h) _ 6, fwC_found, found_mid fw_mid _ j (Nat.le_refl _), fw_found1]; rfl
omit hq in
theorem bw_found (h : 5 <= M) : foundTo (itsR (bwG q M)) (mB 0 0) (M + 4) = true := by
  obtain ⟨j, rfl⟩ := Nat.exists_eq_add_of_le h
  rw [found_tail (bw_c h) _ 4, bwC_found, found_mid bw_mid _ j (Nat.le_refl _), bw_found5]; rfl
theorem fw_check (h : 1 <= M) (hM : M < 2000) : checkE (itsR (fwG q M)) 0 (M + 6) m0 = 0 /\ checkM (itsR (fwG q M)) 0 (M + 6) m0 = mE 0 := by
  unfold checkM chkLate checkE
  rw [bad_0, fw_good hq h, fw_chk h, fw_found h, decide_eq_false (show ¬ ((M + 6 : Nat) : Int) > 65536 by omega)]
  exact ⟨rfl, rfl⟩
theorem bw_check (h : 5 <= M) (hM : M < 2000) : checkE (itsR (bwG q M)) 0 (M + 4) m0 = 0 /\ checkM (itsR (bwG q M)) 0 (M + 4) m0 = mB 0 0 := by
  unfold checkM chkLate checkE
  rw [bad_0, bw_good hq h, bw_chk h, bw_found h, decide_eq_false (show ¬ ((M + 4 : Nat) : Int) > 65536 by omega)]
  exact ⟨rfl, rfl⟩
end
theorem lay_congr {I : Its} {wd wd' : Nat -> Bool} {s : LSt} : ∀ k, (∀ j, j < k -> wd j = wd' j) -> layIt I wd s k = layIt I wd' s k
  | 0, _ => rfl
  | k + 1, h => by
    show layStep I wd k (layIt I wd s k) = layStep I wd' k (layIt I wd' s k)
    rw [lay_congr k fun j hj => h j (by omega)]
    unfold layStep
    rw [h k (by omega)]
def wdA (b : Nat) (v : Bool) : Nat -> Bool := fun k => bif Nat.beq k b then v else false
theorem wdA_no {b k : Nat} {v : Bool} (h : k ≠ b) : wdA b v k = false := by unfold wdA; rw [beq_ff h]; rfl
theorem wdA_at {b : Nat} {v : Bool} : wdA b v b = v := by unfold wdA; rw [beq_tt]; rfl
theorem wdA_ff (b : Nat) : wdA b false = fun _ => false := funext fun k => by unfold wdA; cases Nat.beq k b <;> rfl
theorem set_val (m : LMap) (s : ByteArray) (v : Int) : (m.set s v).val (.string s) = v := by
  show (bif keq (.string s) (.string s) then v else _) = v
  rw [keq_self]; rfl
theorem keq_eb : keq (.string sEnd) (.string sBeg) = false := by kernel_rfl
theorem set_val2 (m : LMap) (v u : Int) : ((m.set sEnd v).set sBeg u).val (.string sEnd) = v := by
  show (bif keq (.string sEnd) (.string sBeg) then u else (m.set sEnd v).val (.string sEnd)) = v
  rw [keq_eb]; exact set_val _ _ _
def bI (v : Bool) : Nat := bif v then 4 else 0
section
variable (q : Int) (m : LMap) (pl : Nat -> Int) (C : Int)
theorem fw_lay1 (v : Bool) (M : Nat) : layIt (itsR (fwG q M)) (wdA 0 v) ⟨0, m, pl⟩ 1 = ⟨bif v then IntKind.i64.wrap (0 + 8) else IntKind.i64.wrap (0 + 4), m, upd pl 0 0⟩ := by kernel_rfl
theorem fwC_lay : (layIt (itsR fwC) (fun _ => false) ⟨C, m, pl⟩ 6).m = m.set sEnd (IntKind.i64.wrap (IntKind.i64.wrap (C + 4) + 4)) := by kernel_rfl
theorem bw_lay5 (M : Nat) : (layIt (itsR (bwG q M)) (fun _ => false) ⟨0, m, pl⟩ 5).cur = 16 /\ (layIt (itsR (bwG q M)) (fun _ => false) ⟨0, m, pl⟩ 5).m = m.set sEnd 4 /\ (layIt (itsR (bwG q M)) (fun _ => false) ⟨0, m, pl⟩ 5).pl 0 = 0 := ⟨by kernel_rfl, by kernel_rfl, by kernel_rfl⟩
theorem bwC_lay (wd : Nat -> Bool) : (layIt (itsR (bwC q)) wd ⟨C, m, pl⟩ 4).m = m.set sBeg C /\ (layIt (itsR (bwC q)) wd ⟨C, m, pl⟩ 1).cur = C := ⟨by kernel_rfl, by kernel_rfl⟩
variable {q} {m} {pl} {M : Nat}
theorem fw_lay (v : Bool) (h : 1 <= M) (hM : M < 2000) : (layIt (itsR (fwG q M)) (wdA 0 v) ⟨0, m, pl⟩ (M + 6)).m = m.set sEnd ((4 * M + 8 + bI v : Nat) : Int) /\ (layIt (itsR (fwG q M)) (wdA 0 v) ⟨0, m, pl⟩ (M + 6)).pl 0 = 0 := by
  refine ⟨?_, lay_pl (M + 6) (by omega)⟩
  obtain ⟨j, rfl⟩ := Nat.exists_eq_add_of_le h
  have h1 := fw_lay1 q m pl v (1 + j)
  have hc : (layIt (itsR (fwG q (1 + j))) (wdA 0 v) ⟨0, m, pl⟩ 1).cur = ((4 + bI v : Nat) : Int) := by rw [h1]; cases v <;> rfl
  have hb : bI v <= 4 := by cases v <;> decide
  obtain ⟨a, b⟩ := lay_mid fw_mid (wd := wdA 0 v) (s := ⟨0, m, pl⟩) (fun k h1 _ => wdA_no (by omega)) hc (by omega) j (Nat.le_refl _)
  rw [h1] at b
  rw [(lay_tail (fw_c h) (s' := ⟨_, m, pl⟩) a b 6).2, show (fun i => wdA 0 v (1 + j + i)) = (fun _ => false) from funext fun i => wdA_no (by omega), fwC_lay]
  rw [wrap_i (n := ((4 + bI v + 4 * j : Nat) : Int) + 4) (by omega) (by omega), wrap_i (by omega) (by omega)]
  exact congrArg (m.set sEnd) (by omega)
theorem bw_lay (v : Bool) (h : 5 <= M) (hM : M < 2000) : (layIt (itsR (bwG q M)) (wdA (M + 1) v) ⟨0, m, pl⟩ (M + 4)).m = (m.set sEnd 4).set sBeg ((4 * M - 4 : Nat) : Int) /\ (layIt (itsR (bwG q M)) (wdA (M + 1) v) ⟨0, m, pl⟩ (M + 4)).pl (M + 1) = ((4 * M - 4 : Nat) : Int) /\ (layIt (itsR (bwG q M)) (wdA (M + 1) v) ⟨0, m, pl⟩ (M + 4)).pl 0 = 0 := by
  rw [lay_pl (M + 4) (show M + 1 < M + 4 by omega), lay_pl (M + 4) (show 0 < M + 4 by omega)]
  obtain ⟨j, rfl⟩ := Nat.exists_eq_add_of_le h
  obtain ⟨c0, c1, c2⟩ := bw_lay5 q m pl (5 + j)
  have hc : layIt (itsR (bwG q (5 + j))) (wdA (5 + j + 1) v) ⟨0, m, pl⟩ 5 = layIt (itsR (bwG q (5 + j))) (fun _ => false) ⟨0, m, pl⟩ 5 := lay_congr 5 fun k hk => wdA_no (by omega)
  obtain ⟨a, b⟩ := lay_mid bw_mid (wd := wdA (5 + j + 1) v) (s := ⟨0, m, pl⟩) (c := 16) (fun k _ h2 => wdA_no (by omega)) (by rw [hc, c0]; rfl) (by omega) j (Nat.le_refl _)
  rw [hc, c1] at b
  have T := lay_tail (bw_c h) (s' := ⟨((16 + 4 * j : Nat) : Int), m.set sEnd 4, pl⟩) a b
  rw [(T 4).2, (T 1).1, (bwC_lay q _ pl _ _).1, (bwC_lay q _ pl _ _).2]
  rw [show 16 + 4 * j = 4 * (5 + j) - 4 by omega]
  exact ⟨rfl, rfl, rfl⟩
theorem fwC_nob : ∀ i, branchF (fwC i).op = false
  | 0 => rfl
  | 1 => rfl
  | 2 => rfl
  | 3 => rfl
  | 4 => rfl
  | _ + 5 => rfl
theorem fw_nob (h : 1 <= M) (k : Nat) (h1 : 1 <= k) : branchF ((itsR (fwG q M)).op k) = false := by
  show branchF (fwG q M k).op = false
  by_cases h2 : k < M
  · rw [fw_mid k h1 h2]; rfl
  · obtain ⟨i, rfl⟩ := Nat.exists_eq_add_of_le (Nat.le_of_not_lt h2)
    rw [fw_c h]; exact fwC_nob i
theorem bwP_nob : ∀ i, branchF (bwP i).op = false
  | 0 => rfl
  | 1 => rfl
  | 2 => rfl
  | 3 => rfl
  | _ + 4 => rfl
theorem bw_nob (h : 5 <= M) (k : Nat) (h1 : k ≠ M + 1) : branchF ((itsR (bwG q M)).op k) = false := by
  show branchF (bwG q M k).op = false
  by_cases h0 : k < 5
  · rw [show bwG q M k = bwP k from cat_p h0]; exact bwP_nob k
  by_cases h2 : k < M
  · rw [bw_mid k (by omega) h2]; rfl
  · obtain ⟨i, rfl⟩ := Nat.exists_eq_add_of_le (Nat.le_of_not_lt h2)
    rw [bw_c h]
    match i, h1 with
    | 0, _ => rfl
    | 1, h1 => exact absurd rfl h1
    | 2, _ => rfl
    | _ + 3, _ => rfl
end
end Go.X
