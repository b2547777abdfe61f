import Derived.Test.YtnekegldodbgjaaK44
import Derived.Test.YtnekegldodbgjaaK42
import Derived.Test.YtnekegldodbgjaaK28
import Derived.Test.YtnekegldodbgjaaK18
set_option linter.all false
namespace Go.X
open Go Go.Proofs
theorem wid_one {I : Its} {N b : Nat} (hb : b < N) (hno : ∀ k, k ≠ b -> branchF (I.op k) = false) (m : LMap) (pl : Nat -> Int) (s : WSt) : widIt I m pl s N = widStep I m pl b s := by
  obtain ⟨t, rfl⟩ : ∃ t, N = b + 1 + t := ⟨N - (b + 1), by omega⟩
  rw [wid_nob t fun k h1 _ => hno k (by omega)]
  show widStep I m pl b (widIt I m pl s b) = _
  have : widIt I m pl s (0 + b) = widIt I m pl s 0 := wid_nob b fun k _ h2 => hno k (by omega)
  rw [Nat.zero_add] at this
  rw [this]; rfl
theorem fin_one {I : Its} {N b : Nat} (hb : b < N) (hno : ∀ k, k ≠ b -> branchF (I.op k) = false) {P : Bool -> LMap -> (Nat -> Int) -> Prop}
    (hl : ∀ v m pl, P v (layIt I (wdA b v) ⟨0, m, pl⟩ N).m (layIt I (wdA b v) ⟨0, m, pl⟩ N).pl) :
    ∃ v m pl, finA I 0 N = ⟨wdA b v, m, pl⟩ /\ P v m pl /\ (v = false -> farF I m pl (fun _ => false) b = false) := by
  have p0 := hl false (checkM I 0 N m0) (fun _ => 0)
  rw [wdA_ff] at p0
  cases hf : farF I (startA I 0 N).m (startA I 0 N).pl (fun _ => false) b with
  | false =>
    have hw : (widN I N (startA I 0 N)).more = false := by
      show (widIt I (startA I 0 N).m (startA I 0 N).pl ⟨false, fun _ => false⟩ N).more = false
      rw [wid_one hb hno]
      unfold widStep
      rw [hf]; rfl
    refine ⟨false, _, _, ?_, p0, fun _ => hf⟩
    unfold finA
    rw [fixN_done N 0 I hw, wdA_ff]; rfl
  | true =>
    have hw : widN I N (startA I 0 N) = ⟨true, wdA b true⟩ := by
      show widIt I (startA I 0 N).m (startA I 0 N).pl ⟨false, fun _ => false⟩ N = _
      rw [wid_one hb hno]
      unfold widStep
      rw [hf]; rfl
    have p1 := hl true (startA I 0 N).m (startA I 0 N).pl
    have hn : nextA I 0 N (startA I 0 N) = ⟨wdA b true, (layIt I (wdA b true) ⟨0, (startA I 0 N).m, (startA I 0 N).pl⟩ N).m, (layIt I (wdA b true) ⟨0, (startA I 0 N).m, (startA I 0 N).pl⟩ N).pl⟩ := by
      unfold nextA; rw [hw]
    have hw2 : (widN I N (nextA I 0 N (startA I 0 N))).more = false := by
      rw [hn]
      show (widIt I _ _ ⟨false, wdA b true⟩ N).more = false
      rw [wid_one hb hno]
      unfold widStep farF
      rw [show (⟨false, wdA b true⟩ : WSt).wd b = true from wdA_at]; simp
    refine ⟨true, _, _, ?_, p1, fun h => by cases h⟩
    unfold finA
    rw [show fixN I 0 N (N + 1) (startA I 0 N) = bif (widN I N (startA I 0 N)).more then fixN I 0 N N (nextA I 0 N (startA I 0 N)) else startA I 0 N from rfl, hw, cond_true, fixN_done N 0 I hw2, hn]
def br1 (q off : Int) : Ins := ⟨q, 0, 5, 6, off⟩
def jal1 (off : Int) : Ins := ⟨53, 0, 0, 0, off⟩
def brW (v : Bool) (q off : Int) : List Ins := bif v then [br1 (oppF q) 8, jal1 (off - 4)] else [br1 q off]
def ad7 : Ins := ⟨28, 7, 7, 0, 1⟩
def a17 : Ins := ⟨28, 17, 0, 0, 3⟩
def a10 : Ins := ⟨28, 10, 0, 0, 1⟩
def ecl : Ins := ⟨55, 0, 0, 0, 0⟩
def fwL (v : Bool) (q : Int) (n : Nat) : List Ins := brW v q ((4 * n + 12 + bI v : Nat) : Int) ++ (List.replicate n ad7 ++ [a17, ecl, a10, a17, ecl])
def bwL (v : Bool) (q : Int) (n : Nat) : List Ins := [jal1 ((4 * n + 16 : Nat) : Int), a10, a17, ecl] ++ (List.replicate n ad7 ++ (brW v q (-((4 * n + 12 : Nat) : Int)) ++ [a17, ecl]))
theorem isE_end : isE sEnd = false := by kernel_rfl
theorem isE_beg : isE sBeg = false := by kernel_rfl
theorem fwC_ins (s : ASt) : insTo (itsR fwC) s 6 = [a17, ecl, a10, a17, ecl] := by kernel_rfl
theorem word_br {I : Its} {s : ASt} {k : Nat} {q E L : Int} {v : Bool} (ht : I.to k = sEnd) (hp : I.part k = 0) (hop : I.op k = q) (h1 : I.rd k = 0) (h2 : I.rs1 k = 5) (h3 : I.rs2 k = 6) (hw : s.wd k = v) (hm : s.m.val (.string sEnd) = E) (hl : s.pl k = L)
    (hr : -1000000 < E - L /\ E - L < 1000000) : insK I s k (wordsN I s.wd k) = brW v q (E - L) := by
  have tw : wordsN I s.wd k = bif v then 2 else 1 := by
    unfold wordsN twoF; rw [ht, isE_end, hp, hw]; cases v <;> rfl
  have wa : wordA I s.wd s.m s.pl k = bif v then br1 (oppF q) 8 else br1 q (E - L) := by
    unfold wordA
    rw [ht, isE_end, hp, hop, h1, h2, h3, hw, hm, hl, wrap_i (by omega) (by omega)]
    cases v <;> rfl
  have wj : wordJ I s.m s.pl k = jal1 (E - L - 4) := by
    unfold wordJ
    rw [ht, hm, hl, wrap_i (n := E - L) (by omega) (by omega), wrap_i (by omega) (by omega)]; rfl
  rw [tw]
  cases v with
  | false => show [wordA I s.wd s.m s.pl k] = [_]; rw [wa]; rfl
  | true => show [wordA I s.wd s.m s.pl k, wordJ I s.m s.pl k] = [_, _]; rw [wa, wj]; rfl
section
variable {q : Int} {M : Nat}
def Pf (M : Nat) (v : Bool) (m : LMap) (pl : Nat -> Int) : Prop := m.val (.string sEnd) = ((4 * M + 8 + bI v : Nat) : Int) /\ pl 0 = 0
def Pb (M : Nat) (v : Bool) (m : LMap) (pl : Nat -> Int) : Prop := m.val (.string sEnd) = 4 /\ m.val (.string sBeg) = ((4 * M - 4 : Nat) : Int) /\ pl (M + 1) = ((4 * M - 4 : Nat) : Int) /\ pl 0 = 0
theorem fw_fin (n : Nat) (hn : n < 1500) : ∃ v, insTo (itsR (fwG q (n + 1))) (finA (itsR (fwG q (n + 1))) 0 (n + 7)) (n + 7) = fwL v q n /\ (v = false -> branchF q = true -> fitsF q ((4 * n + 12 : Nat) : Int) = true) := by
  obtain ⟨v, m, pl, hF, ⟨h1, h2⟩, h3⟩ := fin_one (I := itsR (fwG q (n + 1))) (N := n + 1 + 6) (b := 0) (P := Pf (n + 1)) (by omega) (fun k hk => fw_nob (by omega) k (by omega))
    fun v m pl => by
      obtain ⟨a, b⟩ := fw_lay (q := q) (m := m) (pl := pl) v (M := n + 1) (by omega) (by omega)
      exact ⟨by rw [a]; exact set_val _ _ _, b⟩
  refine ⟨v, ?_, fun hv hq => ?_⟩
  · show insTo _ (finA (itsR (fwG q (n + 1))) 0 (n + 1 + 6)) (n + 1 + 6) = _
    rw [hF, ins_tail (fw_c (by omega)) _ 6, fwC_ins, show n + 1 = 1 + n by omega, ins_mid fw_mid _ n (Nat.le_refl _)]
    have : insTo (itsR (fwG q (1 + n))) ⟨wdA 0 v, m, pl⟩ 1 = brW v q ((4 * n + 12 + bI v : Nat) : Int) := by
      show insTo _ _ 0 ++ (bif isE ⟨#[]⟩ then insK (itsR (fwG q (1 + n))) ⟨wdA 0 v, m, pl⟩ 0 (wordsN (itsR (fwG q (1 + n))) (wdA 0 v) 0) else []) = _
      have hb : bI v <= 4 := by cases v <;> decide
      rw [isE_nil, cond_true, word_br (I := itsR (fwG q (1 + n))) (s := ⟨wdA 0 v, m, pl⟩) (k := 0) (v := v) rfl rfl rfl rfl rfl rfl (wdA_at (b := 0)) h1 h2 (by omega)]
      show [] ++ brW v q _ = _
      rw [List.nil_append]
      exact congrArg (brW v q) (by omega)
    rw [this]
    unfold fwL
    rw [List.append_assoc]; rfl
  · have h := h3 hv
    subst hv
    have e : farF (itsR (fwG q (n + 1))) m pl (fun _ => false) 0 = (isE ⟨#[]⟩ && branchF q && !isE sEnd && !false && !fitsF q (IntKind.i64.wrap (m.val (.string sEnd) - pl 0))) := rfl
    rw [e, isE_nil, hq, isE_end, h1, h2, wrap_i (by have : bI false = 0 := rfl; omega) (by have : bI false = 0 := rfl; omega)] at h
    simp only [Bool.and_self, Bool.not_false, Bool.true_and, Bool.not_eq_false'] at h
    rw [<- h]
    exact congrArg (fitsF q) (by have : bI false = 0 := rfl; omega)
theorem bw_pre (v : Bool) (n : Nat) (m : LMap) (pl : Nat -> Int) (hn : n < 1500) (h1 : m.val (.string sBeg) = ((4 * n + 16 : Nat) : Int)) (h2 : pl 0 = 0) : insTo (itsR (bwG q (5 + n))) ⟨wdA (n + 5 + 1) v, m, pl⟩ 5 = [jal1 ((4 * n + 16 : Nat) : Int), a10, a17, ecl] := by
  have e : insTo (itsR (bwG q (5 + n))) ⟨wdA (n + 5 + 1) v, m, pl⟩ 5 = (bif isE ⟨#[]⟩ then insK (itsR (bwG q (5 + n))) ⟨wdA (n + 5 + 1) v, m, pl⟩ 0 (wordsN (itsR (bwG q (5 + n))) (wdA (n + 5 + 1) v) 0) else []) ++ [a10, a17, ecl] := by kernel_rfl
  rw [e, isE_nil, cond_true]
  have tw : wordsN (itsR (bwG q (5 + n))) (wdA (n + 5 + 1) v) 0 = 1 := by
    unfold wordsN twoF; rw [wdA_no (by omega)]; simp
  have wa : wordA (itsR (bwG q (5 + n))) (wdA (n + 5 + 1) v) m pl 0 = jal1 ((4 * n + 16 : Nat) : Int) := by
    unfold wordA
    rw [wdA_no (by omega), show (itsR (bwG q (5 + n))).to 0 = sBeg from rfl, isE_beg, h1, h2, wrap_i (by omega) (by omega)]
    show jal1 (((4 * n + 16 : Nat) : Int) - 0) = _
    rw [Int.sub_zero]
  rw [tw]
  show [wordA (itsR (bwG q (5 + n))) (wdA (n + 5 + 1) v) m pl 0] ++ _ = _
  rw [wa]; rfl
theorem bw_fin (n : Nat) (hn : n < 1500) : ∃ v, insTo (itsR (bwG q (n + 5))) (finA (itsR (bwG q (n + 5))) 0 (n + 9)) (n + 9) = bwL v q n /\ (v = false -> branchF q = true -> fitsF q (-((4 * n + 12 : Nat) : Int)) = true) := by
  obtain ⟨v, m, pl, hF, ⟨h1, h2, h4, h5⟩, h3⟩ := fin_one (I := itsR (bwG q (n + 5))) (N := n + 5 + 4) (b := n + 5 + 1) (P := Pb (n + 5)) (by omega) (fun k hk => bw_nob (by omega) k hk)
    fun v m pl => by
      obtain ⟨a, b, c⟩ := bw_lay (q := q) (m := m) (pl := pl) v (M := n + 5) (by omega) (by omega)
      exact ⟨by rw [a]; exact set_val2 _ _ _, by rw [a]; exact set_val _ _ _, b, c⟩
  refine ⟨v, ?_, fun hv hq => ?_⟩
  · show insTo _ (finA (itsR (bwG q (n + 5))) 0 (n + 5 + 4)) (n + 5 + 4) = _
    rw [hF, ins_tail (bw_c (by omega)) _ 4]
    have t4 : insTo (itsR (bwC q)) ⟨fun i => wdA (n + 5 + 1) v (n + 5 + i), m, fun i => pl (n + 5 + i)⟩ 4 = brW v q (-((4 * n + 12 : Nat) : Int)) ++ [a17, ecl] := by
      have e : insTo (itsR (bwC q)) ⟨fun i => wdA (n + 5 + 1) v (n + 5 + i), m, fun i => pl (n + 5 + i)⟩ 4 = (bif isE ⟨#[]⟩ then insK (itsR (bwC q)) ⟨fun i => wdA (n + 5 + 1) v (n + 5 + i), m, fun i => pl (n + 5 + i)⟩ 1 (wordsN (itsR (bwC q)) (fun i => wdA (n + 5 + 1) v (n + 5 + i)) 1) else []) ++ [a17] ++ [ecl] := by kernel_rfl
      rw [e, isE_nil, cond_true, word_br (I := itsR (bwC q)) (s := ⟨fun i => wdA (n + 5 + 1) v (n + 5 + i), m, fun i => pl (n + 5 + i)⟩) (k := 1) (v := v) rfl rfl rfl rfl rfl rfl (wdA_at (b := n + 5 + 1)) h1 h4 (by omega), List.append_assoc]
      rw [show (4 : Int) - ((4 * (n + 5) - 4 : Nat) : Int) = -((4 * n + 12 : Nat) : Int) by omega]; rfl
    rw [t4, show n + 5 = 5 + n by omega, ins_mid bw_mid _ n (Nat.le_refl _)]
    rw [show 5 + n + 1 = n + 5 + 1 by omega, bw_pre v n m pl hn (by rw [h2]; omega) h5]
    unfold bwL
    simp only [List.append_assoc]; rfl
  · have h := h3 hv
    have e : farF (itsR (bwG q (n + 5))) m pl (fun _ => false) (n + 5 + 1) = (isE ⟨#[]⟩ && branchF q && !isE sEnd && !false && !fitsF q (IntKind.i64.wrap (m.val (.string sEnd) - pl (n + 5 + 1)))) := by
      unfold farF
      rw [show (itsR (bwG q (n + 5))).lb (n + 5 + 1) = ⟨#[]⟩ by show (bwG q (n + 5) (n + 5 + 1)).lb = _; rw [bw_c (by omega)]; rfl, show (itsR (bwG q (n + 5))).op (n + 5 + 1) = q by show (bwG q (n + 5) (n + 5 + 1)).op = _; rw [bw_c (by omega)]; rfl, show (itsR (bwG q (n + 5))).to (n + 5 + 1) = sEnd by show (bwG q (n + 5) (n + 5 + 1)).to = _; rw [bw_c (by omega)]; rfl]
    rw [e, isE_nil, hq, isE_end, h1, h4, wrap_i (by omega) (by omega)] at h
    simp only [Bool.and_self, Bool.not_false, Bool.true_and, Bool.not_eq_false'] at h
    rw [<- h]
    exact congrArg (fitsF q) (by omega)
end
def u32R (x : Int) : Prop := 0 <= x /\ x < 4294967296
theorem orW_rng (a b : Int) : u32R (orW a b) := by
  have : ∀ y : Nat, u32R (IntKind.u32.wrap y) := fun y => by rw [u32_wrap]; unfold u32R; omega
  exact this _
theorem regs_rng {bad : Bool} {rd rs1 rs2 : Int} {rest : Int × Int} (h : u32R rest.1) : u32R (encRegs bad rd rs1 rs2 rest).1 := by
  have z : u32R 0 := ⟨by omega, by omega⟩
  unfold encRegs
  cases bad <;> cases noReg rd <;> cases noReg rs1 <;> cases noReg rs2 <;> first | exact z | exact h
theorem cond_rng {c : Bool} {w : Int} (h : u32R w) : u32R (bif c then ((0 : Int), (1 : Int)) else (w, 0)).1 := by
  cases c
  · exact h
  · exact ⟨by show (0 : Int) <= 0; omega, by show (0 : Int) < 4294967296; omega⟩
section
variable (o f3 f7 rd rs1 rs2 imm : Int)
theorem rngR : u32R (encR o f3 f7 rd rs1 rs2 imm).1 := regs_rng (orW_rng _ _)
theorem rngI : u32R (encI o f3 f7 rd rs1 rs2 imm).1 := regs_rng (cond_rng (orW_rng _ _))
theorem rngT : u32R (encT o f3 f7 rd rs1 rs2 imm).1 := regs_rng (cond_rng (orW_rng _ _))
theorem rngS : u32R (encS o f3 f7 rd rs1 rs2 imm).1 := regs_rng (cond_rng (orW_rng _ _))
theorem rngB : u32R (encB o f3 f7 rd rs1 rs2 imm).1 := regs_rng (cond_rng (orW_rng _ _))
theorem rngU : u32R (encU o f3 f7 rd rs1 rs2 imm).1 := regs_rng (cond_rng (orW_rng _ _))
theorem rngJ : u32R (encJ o f3 f7 rd rs1 rs2 imm).1 := regs_rng (cond_rng (orW_rng _ _))
theorem rngN : u32R (encN o f3 f7 rd rs1 rs2 imm).1 := regs_rng (orW_rng _ _)
end
theorem rng_in {rd rs1 rs2 imm : Int} : ∀ k : Nat, u32R (encF (.ofNat k) rd rs1 rs2 imm).1
  | 0 => ⟨by show (0 : Int) <= 0; omega, by show (0 : Int) < 4294967296; omega⟩
  | 1 => rngR 51 0 0 rd rs1 rs2 imm
  | 2 => rngR 51 0 32 rd rs1 rs2 imm
  | 3 => rngR 51 1 0 rd rs1 rs2 imm
  | 4 => rngR 51 2 0 rd rs1 rs2 imm
  | 5 => rngR 51 3 0 rd rs1 rs2 imm
  | 6 => rngR 51 4 0 rd rs1 rs2 imm
  | 7 => rngR 51 5 0 rd rs1 rs2 imm
  | 8 => rngR 51 5 32 rd rs1 rs2 imm
  | 9 => rngR 51 6 0 rd rs1 rs2 imm
  | 10 => rngR 51 7 0 rd rs1 rs2 imm
  | 11 => rngR 51 0 1 rd rs1 rs2 imm
  | 12 => rngR 51 1 1 rd rs1 rs2 imm
  | 13 => rngR 51 3 1 rd rs1 rs2 imm
  | 14 => rngR 51 4 1 rd rs1 rs2 imm
  | 15 => rngR 51 5 1 rd rs1 rs2 imm
  | 16 => rngR 51 6 1 rd rs1 rs2 imm
  | 17 => rngR 51 7 1 rd rs1 rs2 imm
  | 18 => rngR 59 0 0 rd rs1 rs2 imm
  | 19 => rngR 59 0 32 rd rs1 rs2 imm
  | 20 => rngR 59 1 0 rd rs1 rs2 imm
  | 21 => rngR 59 5 0 rd rs1 rs2 imm
  | 22 => rngR 59 5 32 rd rs1 rs2 imm
  | 23 => rngR 59 0 1 rd rs1 rs2 imm
  | 24 => rngR 59 4 1 rd rs1 rs2 imm
  | 25 => rngR 59 5 1 rd rs1 rs2 imm
  | 26 => rngR 59 6 1 rd rs1 rs2 imm
  | 27 => rngR 59 7 1 rd rs1 rs2 imm
  | 28 => rngI 19 0 0 rd rs1 rs2 imm
  | 29 => rngI 19 2 0 rd rs1 rs2 imm
  | 30 => rngI 19 3 0 rd rs1 rs2 imm
  | 31 => rngI 19 4 0 rd rs1 rs2 imm
  | 32 => rngI 19 6 0 rd rs1 rs2 imm
  | 33 => rngI 19 7 0 rd rs1 rs2 imm
  | 34 => rngT 19 1 0 rd rs1 rs2 imm
  | 35 => rngT 19 5 0 rd rs1 rs2 imm
  | 36 => rngT 19 5 32 rd rs1 rs2 imm
  | 37 => rngI 27 0 0 rd rs1 rs2 imm
  | 38 => rngI 3 0 0 rd rs1 rs2 imm
  | 39 => rngI 3 4 0 rd rs1 rs2 imm
  | 40 => rngI 3 2 0 rd rs1 rs2 imm
  | 41 => rngI 3 3 0 rd rs1 rs2 imm
  | 42 => rngS 35 0 0 rd rs1 rs2 imm
  | 43 => rngS 35 2 0 rd rs1 rs2 imm
  | 44 => rngS 35 3 0 rd rs1 rs2 imm
  | 45 => rngB 99 0 0 rd rs1 rs2 imm
  | 46 => rngB 99 1 0 rd rs1 rs2 imm
  | 47 => rngB 99 4 0 rd rs1 rs2 imm
  | 48 => rngB 99 5 0 rd rs1 rs2 imm
  | 49 => rngB 99 6 0 rd rs1 rs2 imm
  | 50 => rngB 99 7 0 rd rs1 rs2 imm
  | 51 => rngU 55 0 0 rd rs1 rs2 imm
  | 52 => rngU 23 0 0 rd rs1 rs2 imm
  | 53 => rngJ 111 0 0 rd rs1 rs2 imm
  | 54 => rngI 103 0 0 rd rs1 rs2 imm
  | 55 => rngN 115 0 0 rd rs1 rs2 imm
  | k + 56 => by rw [encF_big]; exact ⟨by show (0 : Int) <= 0; omega, by show (0 : Int) < 4294967296; omega⟩
theorem encF_rng (op rd rs1 rs2 imm : Int) : u32R (encF op rd rs1 rs2 imm).1 := by
  cases op with
  | ofNat k => exact rng_in k
  | negSucc m => rw [encF_neg]; exact ⟨by show (0 : Int) <= 0; omega, by show (0 : Int) < 4294967296; omega⟩
theorem encB_ok {o f3 f7 off : Int} (h1 : -4096 <= off) (h2 : off <= 4094) (h3 : off % 2 = 0) : (encB o f3 f7 0 5 6 off).2 = 0 := by
  unfold encB encRegs
  rw [and1, h3, decide_eq_false (show ¬ off < -4096 by omega), decide_eq_false (show ¬ off > 4094 by omega)]; rfl
theorem encJ_ok {o f3 f7 off : Int} (h1 : -1048576 <= off) (h2 : off <= 1048574) (h3 : off % 2 = 0) : (encJ o f3 f7 0 0 0 off).2 = 0 := by
  unfold encJ encRegs
  rw [and1, h3, decide_eq_false (show ¬ off < -1048576 by omega), decide_eq_false (show ¬ off > 1048574 by omega)]; rfl
theorem ok_of {i : Ins} (h : (encF i.op i.rd i.rs1 i.rs2 i.imm).2 = 0) : okI i = true := by unfold okI; rw [h]; rfl
theorem ok_brk {off : Int} (h1 : -4096 <= off) (h2 : off <= 4094) (h3 : off % 2 = 0) : ∀ k : Nat, k < 6 -> okI (br1 (.ofNat (45 + k)) off) = true
  | 0, _ => ok_of (encB_ok (o := 99) (f3 := 0) (f7 := 0) h1 h2 h3)
  | 1, _ => ok_of (encB_ok (o := 99) (f3 := 1) (f7 := 0) h1 h2 h3)
  | 2, _ => ok_of (encB_ok (o := 99) (f3 := 4) (f7 := 0) h1 h2 h3)
  | 3, _ => ok_of (encB_ok (o := 99) (f3 := 5) (f7 := 0) h1 h2 h3)
  | 4, _ => ok_of (encB_ok (o := 99) (f3 := 6) (f7 := 0) h1 h2 h3)
  | 5, _ => ok_of (encB_ok (o := 99) (f3 := 7) (f7 := 0) h1 h2 h3)
  | k + 6, h => by omega
theorem ok_jal {off : Int} (h1 : -1048576 <= off) (h2 : off <= 1048574) (h3 : off % 2 = 0) : okI (jal1 off) = true := ok_of (encJ_ok (o := 111) (f3 := 0) (f7 := 0) h1 h2 h3)
theorem ok_ad7 : okI ad7 = true := by kernel_rfl
theorem ok_a17 : okI a17 = true := by kernel_rfl
theorem ok_a10 : okI a10 = true := by kernel_rfl
theorem ok_ecl : okI ecl = true := by kernel_rfl
theorem fits_k (off : Int) : ∀ k : Nat, k < 6 -> fitsF (.ofNat (45 + k)) off = (decide (off >= -4096) && decide (off <= 4094))
  | 0, _ => by kernel_rfl
  | 1, _ => by kernel_rfl
  | 2, _ => by kernel_rfl
  | 3, _ => by kernel_rfl
  | 4, _ => by kernel_rfl
  | 5, _ => by kernel_rfl
  | k + 6, h => by omega
def opp6 : Nat -> Nat
  | 0 => 1
  | 1 => 0
  | 2 => 3
  | 3 => 2
  | 4 => 5
  | _ => 4
theorem opp_k : ∀ k : Nat, k < 6 -> oppF (.ofNat (45 + k)) = .ofNat (45 + opp6 k)
  | 0, _ => by kernel_rfl
  | 1, _ => by kernel_rfl
  | 2, _ => by kernel_rfl
  | 3, _ => by kernel_rfl
  | 4, _ => by kernel_rfl
  | 5, _ => by kernel_rfl
  | k + 6, h => by omega
theorem opp6_lt : ∀ k, opp6 k < 6
  | 0 => by decide
  | 1 => by decide
  | 2 => by decide
  | 3 => by decide
  | 4 => by decide
  | _ + 5 => by show 4 < 6; decide
theorem branch_k (k : Nat) (h : k < 6) : branchF (.ofNat (45 + k)) = true := by
  unfold branchF
  show (decide (((45 + k : Nat) : Int) >= 45) && decide (((45 + k : Nat) : Int) <= 50)) = true
  rw [decide_eq_true (by omega), decide_eq_true (by omega)]; rfl
theorem brW_ok {v : Bool} {k : Nat} {off : Int} (hk : k < 6) (he : off % 4 = 0) (h1 : -100000 < off) (h2 : off < 100000) (hv : v = false -> fitsF (.ofNat (45 + k)) off = true) : (brW v (.ofNat (45 + k)) off).all okI = true := by
  cases v with
  | false =>
    have := hv rfl
    rw [fits_k off k hk] at this
    simp only [Bool.and_eq_true, decide_eq_true_eq] at this
    show (okI (br1 _ off) && true) = true
    rw [ok_brk (by omega) (by omega) (by omega) k hk]; rfl
  | true =>
    show (okI (br1 (oppF (.ofNat (45 + k))) 8) && (okI (jal1 (off - 4)) && true)) = true
    rw [opp_k k hk, ok_brk (by omega) (by omega) (by omega) _ (opp6_lt k), ok_jal (by omega) (by omega) (by omega)]; rfl
theorem rep_ok (n : Nat) : (List.replicate n ad7).all okI = true := List.all_eq_true.2 fun i hi => by rw [(List.mem_replicate.1 hi).2]; exact ok_ad7
theorem fwL_ok {v : Bool} {k n : Nat} (hk : k < 6) (hn : n < 1500) (hv : v = false -> branchF (.ofNat (45 + k)) = true -> fitsF (.ofNat (45 + k)) ((4 * n + 12 : Nat) : Int) = true) : (fwL v (.ofNat (45 + k)) n).all okI = true := by
  unfold fwL
  have hb : bI v <= 4 /\ bI v % 4 = 0 := by cases v <;> decide
  rw [List.all_append, brW_ok hk (by omega) (by omega) (by omega) (fun h => by have := hv h (branch_k k hk); subst h; exact this), List.all_append, rep_ok]
  simp only [List.all_cons, List.all_nil, ok_a17, ok_ecl, ok_a10, Bool.and_self]
theorem bwL_ok {v : Bool} {k n : Nat} (hk : k < 6) (hn : n < 1500) (hv : v = false -> branchF (.ofNat (45 + k)) = true -> fitsF (.ofNat (45 + k)) (-((4 * n + 12 : Nat) : Int)) = true) : (bwL v (.ofNat (45 + k)) n).all okI = true := by
  unfold bwL
  rw [List.all_append, List.all_append, List.all_append, rep_ok, brW_ok hk (by omega) (by omega) (by omega) (fun h => hv h (branch_k k hk))]
  simp only [List.all_cons, List.all_nil, ok_a17, ok_ecl, ok_a10, Bool.and_self, ok_jal (show (-1048576 : Int) <= ((4 * n + 16 : Nat) : Int) by omega) (by omega) (by omega)]
theorem brW_len (v : Bool) (q off : Int) : (brW v q off).length = bif v then 2 else 1 := by cases v <;> rfl
theorem fwL_len (v : Bool) (q : Int) (n : Nat) : (fwL v q n).length = (bif v then 2 else 1) + n + 5 := by
  unfold fwL; rw [List.length_append, brW_len, List.length_append, List.length_replicate]; simp; omega
theorem bwL_len (v : Bool) (q : Int) (n : Nat) : (bwL v q n).length = (bif v then 2 else 1) + n + 6 := by
  unfold bwL; rw [List.length_append, List.length_append, List.length_append, brW_len, List.length_replicate]; simp; omega
theorem asm_of {I : Its} {N : Nat} {L : List Ins} (hc : checkE I 0 N m0 = 0) (hi : insTo I (finA I 0 N) N = L) (ho : L.all okI = true) (hl : L.length <= 65536) : asmE I 0 N = 0 /\ asmW I 0 N = L.map encW := by
  have hw : asmW I 0 N = L.map encW := by unfold asmW; rw [hi]
  refine ⟨?_, hw⟩
  unfold asmE
  rw [hc, hi, ho, hw, List.length_map, decide_eq_false (by omega)]; rfl
def wL (L : List Ins) : Nat -> Int := fun j => (L.map encW).getD j 0
structure AtW (L : List Ins) (s : RSt) (p : Nat) (a b vr7 vr10 vr17 : Int) : Prop where
  mem : s.m.mem = (mW (wL L) L.length (4 * L.length + 64)).mem
  sz : s.m.sz = 4 * L.length + 64
  pl : s.m.pl = 4 * (p : Int)
  st : s.m.st = 0
  oN : s.oN = 0
  x0 : s.m.x 0 = 0
  x5 : s.m.x 5 = a
  x6 : s.m.x 6 = b
  x7 : s.m.x 7 = vr7
  x10 : s.m.x 10 = vr10
  x17 : s.m.x 17 = vr17
def Goes (n : Nat) (s s' : RSt) : Prop := ∀ f c, runF (stepF (e0 false)) (n + f) s c = runF (stepF (e0 false)) f s' (c + n)
theorem goes_refl (s : RSt) : Goes 0 s s := fun f c => by rw [Nat.zero_add, Nat.add_zero]
theorem goes_one {s s' : RSt} (h0 : s.m.st = 0) (h : stepF (e0 false) s = (true, s')) : Goes 1 s s' := fun f c => by
  rw [Nat.add_comm 1 f, runF_go (by rw [h0]; rfl) h]
theorem goes_trans {a b : Nat} {s t u : RSt} (h1 : Goes a s t) (h2 : Goes b t u) : Goes (a + b) s u := fun f c => by
  rw [Nat.add_assoc, h1, h2, Nat.add_assoc]
theorem goes_end {n : Nat} {m : MS} {s : RSt} {w : Nat} (h : Goes n (RSt.init m) s) (hs : s.m.st = 1) (hn : n <= w) : runM false m w = (s, n) := by
  obtain ⟨f, rfl⟩ := Nat.exists_eq_add_of_le hn
  unfold runM
  rw [h f 0, runF_end (by rw [hs]; rfl), Nat.zero_add]
section
variable {L : List Ins} (hL : L.all okI = true) (hlen : L.length < 100000) {s : RSt} {p : Nat} {a b vr7 vr10 vr17 : Int} (h : AtW L s p a b vr7 vr10 vr17)
include hL hlen h
theorem dec_at {i : Ins} (hi : L[p]? = some i) : plB s.m.sz s.m.pl 4 = true /\ decA (w32 s.m) = ⟨i.op, ⟨i.rd, i.rs1, i.rs2, i.imm⟩, 0⟩ := by
  obtain ⟨hp, he⟩ := List.getElem?_eq_some_iff.1 hi
  refine ⟨?_, ?_⟩
  · rw [h.sz, h.pl]
    show ((4 * (p : Int)) % 4 == 0 && (decide ((0 : Int) <= 4 * (p : Int)) && decide (4 * (p : Int) + 4 <= ((4 * L.length + 64 : Nat) : Int)))) = true
    rw [decide_eq_true (by omega), decide_eq_true (by omega), show (4 * (p : Int)) % 4 = 0 by omega]; rfl
  · have hw : wL L p = encW i := by
      unfold wL
      rw [List.getD_eq_getElem?_getD, List.getElem?_map, hi]; rfl
    have hr : 0 <= wL L p /\ wL L p < 4294967296 := by rw [hw]; exact encF_rng _ _ _ _ _
    rw [w32_word (W := wL L) (k := L.length) (sz := 4 * L.length + 64) hp hr h.mem h.pl, hw]
    refine okI_dec (List.all_eq_true.1 hL i ?_)
    rw [<- he]; exact List.getElem_mem _
theorem step_at {i : Ins} (hi : L[p]? = some i) (h1 : plainB i.op = true) :
    stepF (e0 false) s = (true, { s with m := stepM s.m s.m.kn' i.op ⟨i.rd, i.rs1, i.rs2, i.imm⟩, mark := markF i.op ⟨i.rd, i.rs1, i.rs2, i.imm⟩ s.mark }) := by
  obtain ⟨hp, hd⟩ := dec_at hL hlen h hi
  exact stepP1 hp hd h1
theorem nxt_at (hp : p < 100000) : nxt s.m = 4 * ((p + 1 : Nat) : Int) := by
  unfold nxt; rw [h.pl, u64w]; omega
theorem lt_at {i : Ins} (hi : L[p]? = some i) : p < 100000 := by
  obtain ⟨hp, _⟩ := List.getElem?_eq_some_iff.1 hi; omega
theorem at_ad7 (hi : L[p]? = some ad7) (h7 : 0 <= vr7) (h7' : vr7 < 100000) : ∃ s', Goes 1 s s' /\ AtW L s' (p + 1) a b (vr7 + 1) vr10 vr17 := by
  refine ⟨_, goes_one h.st (step_at hL hlen h hi rfl), h.mem, h.sz, nxt_at hL hlen h (lt_at hL hlen h hi), h.st, h.oN, rfl, h.x5, h.x6, ?_, h.x10, h.x17⟩
  show IntKind.u64.wrap (s.m.x 7 + ofF 1) = _
  rw [h.x7, u64w, show ofF 1 = 1 from rfl]; omega
theorem at_a10 (hi : L[p]? = some a10) : ∃ s', Goes 1 s s' /\ AtW L s' (p + 1) a b vr7 1 vr17 := by
  refine ⟨_, goes_one h.st (step_at hL hlen h hi rfl), h.mem, h.sz, nxt_at hL hlen h (lt_at hL hlen h hi), h.st, h.oN, rfl, h.x5, h.x6, h.x7, ?_, h.x17⟩
  show IntKind.u64.wrap (s.m.x 0 + ofF 1) = _
  rw [h.x0]; rfl
theorem at_a17 (hi : L[p]? = some a17) : ∃ s', Goes 1 s s' /\ AtW L s' (p + 1) a b vr7 vr10 3 := by
  refine ⟨_, goes_one h.st (step_at hL hlen h hi rfl), h.mem, h.sz, nxt_at hL hlen h (lt_at hL hlen h hi), h.st, h.oN, rfl, h.x5, h.x6, h.x7, h.x10, ?_⟩
  show IntKind.u64.wrap (s.m.x 0 + ofF 3) = _
  rw [h.x0]; rfl
theorem to_at {p' : Nat} {off : Int} (ho : 4 * (p : Int) + off = 4 * (p' : Int)) (hp : p' < 100000) : IntKind.u64.wrap (s.m.pl + ofF off) = 4 * (p' : Int) := by
  rw [h.pl]
  unfold ofF
  rw [u64w, u64w]; omega
theorem at_jal {off : Int} {p' : Nat} (hi : L[p]? = some (jal1 off)) (ho : 4 * (p : Int) + off = 4 * (p' : Int)) (hp : p' < 100000) : ∃ s', Goes 1 s s' /\ AtW L s' p' a b vr7 vr10 vr17 :=
  ⟨_, goes_one h.st (step_at hL hlen h hi rfl), h.mem, h.sz, to_at hL hlen h ho hp, h.st, h.oN, rfl, h.x5, h.x6, h.x7, h.x10, h.x17⟩
theorem at_br {off : Int} {k p' : Nat} (hk : k < 6) (hi : L[p]? = some (br1 (.ofNat (45 + k)) off)) (ho : 4 * (p : Int) + off = 4 * (p' : Int)) (hp : p' < 100000) :
    ∃ s', Goes 1 s s' /\ AtW L s' (bif takenF (.ofNat (45 + k)) a b then p' else p + 1) a b vr7 vr10 vr17 := by
  have pl : nextF s.m (.ofNat (45 + k)) ⟨0, 5, 6, off⟩ = 4 * ((bif takenF (.ofNat (45 + k)) a b then p' else p + 1 : Nat) : Int) := by
    have e : nextF s.m (.ofNat (45 + k)) ⟨0, 5, 6, off⟩ = bif takenF (.ofNat (45 + k)) (s.m.x 5) (s.m.x 6) then IntKind.u64.wrap (s.m.pl + ofF off) else nxt s.m := by
      match k, hk with
      | 0, _ => rfl
      | 1, _ => rfl
      | 2, _ => rfl
      | 3, _ => rfl
      | 4, _ => rfl
      | 5, _ => rfl
      | k + 6, h => omega
    rw [e, h.x5, h.x6, to_at hL hlen h ho hp, nxt_at hL hlen h (lt_at hL hlen h hi)]
    cases takenF (.ofNat (45 + k)) a b <;> rfl
  have pb : plainB (.ofNat (45 + k)) = true := by
    match k, hk with
    | 0, _ => rfl
    | 1, _ => rfl
    | 2, _ => rfl
    | 3, _ => rfl
    | 4, _ => rfl
    | 5, _ => rfl
    | k + 6, h => omega
  have hv : valF s.m (.ofNat (45 + k)) ⟨0, 5, 6, off⟩ = none := by
    match k, hk with
    | 0, _ => rfl
    | 1, _ => rfl
    | 2, _ => rfl
    | 3, _ => rfl
    | 4, _ => rfl
    | 5, _ => rfl
    | k + 6, h => omega
  refine ⟨_, goes_one h.st (step_at hL hlen h hi pb), h.mem, h.sz, pl, h.st, h.oN, ?_, ?_, ?_, ?_, ?_, ?_⟩
  all_goals
    show putR s.m.x 0 (valF s.m (.ofNat (45 + k)) ⟨0, 5, 6, off⟩) _ = _
    rw [hv]
  · rfl
  · exact h.x5
  · exact h.x6
  · exact h.x7
  · exact h.x10
  · exact h.x17
end
section
variable {L : List Ins} (hL : L.all okI = true) (hlen : L.length < 100000) {s : RSt} {p : Nat} {a b vr7 vr10 : Int} (h : AtW L s p a b vr7 vr10 3)
include hL hlen h
theorem at_ecl (hi : L[p]? = some ecl) : ∃ s', Goes 1 s s' /\ s'.m.st = 1 /\ s'.m.cd = IntKind.u8.wrap vr10 /\ s'.m.x 7 = vr7 /\ s'.oN = 0 := by
  obtain ⟨hp, hd⟩ := dec_at hL hlen h hi
  have e : stepF (e0 false) s = callR (e0 false) s s.m.kn' := by
    unfold stepF stepG
    rw [hp, hd]; rfl
  have c : callR (e0 false) s s.m.kn' = (true, { s with m := finM s.m (endM s.m) s.m.kn' true }) := by
    unfold callR
    rw [h.x17]; rfl
  refine ⟨_, goes_one h.st (e.trans c), ?_, ?_, h.x7, h.oN⟩
  · show (bif s.m.x 17 == 3 then (1 : Int) else _) = 1
    rw [h.x17]; rfl
  · show (bif s.m.x 17 == 3 then IntKind.u8.wrap (s.m.x 10) else _) = _
    rw [h.x17, h.x10]; rfl
end
section
variable {L : List Ins} (hL : L.all okI = true) (hlen : L.length < 100000)
include hL hlen
theorem at_rep {a b vr10 vr17 : Int} : ∀ (n : Nat) {s : RSt} {p : Nat} {c : Nat}, AtW L s p a b (c : Int) vr10 vr17 -> (∀ j, j < n -> L[p + j]? = some ad7) -> c + n < 100000 -> ∃ s', Goes n s s' /\ AtW L s' (p + n) a b ((c + n : Nat) : Int) vr10 vr17
  | 0, s, p, c, h, _, _ => ⟨s, goes_refl s, h⟩
  | n + 1, s, p, c, h, hj, hc => by
    obtain ⟨s1, g1, h1⟩ := at_ad7 hL hlen h (hj 0 (by omega)) (by omega) (by omega)
    obtain ⟨s2, g2, h2⟩ := at_rep n (s := s1) (p := p + 1) (c := c + 1) h1 (fun j hjn => by rw [show p + 1 + j = p + (j + 1) by omega]; exact hj (j + 1) (by omega)) (by omega)
    refine ⟨s2, by rw [Nat.add_comm n 1]; exact goes_trans g1 g2, ?_⟩
    rw [show p + (n + 1) = p + 1 + n by omega, show c + (n + 1) = c + 1 + n by omega]; exact h2
theorem at_stop {s : RSt} {p : Nat} {a b vr7 vr10 vr17 : Int} (h : AtW L s p a b vr7 vr10 vr17) (h1 : L[p]? = some a17) (h2 : L[p + 1]? = some ecl) : ∃ s', Goes 2 s s' /\ s'.m.st = 1 /\ s'.m.cd = IntKind.u8.wrap vr10 /\ s'.m.x 7 = vr7 /\ s'.oN = 0 := by
  obtain ⟨s1, g1, k1⟩ := at_a17 hL hlen h h1
  obtain ⟨s2, g2, k2⟩ := at_ecl hL hlen k1 h2
  exact ⟨s2, goes_trans g1 g2, k2⟩
theorem at_one {s : RSt} {p : Nat} {a b vr7 vr10 vr17 : Int} (h : AtW L s p a b vr7 vr10 vr17) (h0 : L[p]? = some a10) (h1 : L[p + 1]? = some a17) (h2 : L[p + 1 + 1]? = some ecl) : ∃ s', Goes 3 s s' /\ s'.m.st = 1 /\ s'.m.cd = 1 /\ s'.m.x 7 = vr7 /\ s'.oN = 0 := by
  obtain ⟨s1, g1, k1⟩ := at_a10 hL hlen h h0
  obtain ⟨s2, g2, k2, k3, k4⟩ := at_stop hL hlen k1 h1 h2
  exact ⟨s2, goes_trans g1 g2, k2, k3, k4⟩
end
def itB8 (I : Its) (l : Nat) : Blk := .rows l 8 I.row true false
abbrev sl60 (l : Nat) : Value := .slice (some ⟨60, 0, none⟩) l l
def wB0 (k : Nat) (W : Nat -> Int) : Blk := .rows k 1 (fun j => [.int .u32 (W j)]) true false
noncomputable abbrev sc14b (k : Nat) (W : Nat -> Int) (sz : Nat) (m : MS) : Short := scOf [conAt 38 [sl60 k] [(60, wB0 k W)] (newS 130 (4 * k)) (mkH [(130, outB (4 * k) (bw W k))]) 130 1,
  conAt 22 [newS 130 (4 * k), .int .i64 (sz : Int)] [(130, outB (4 * k) (bw W k))] (vM3 133) (mkH [(131, m.memB), (132, m.kn.blk), (133, m.mAt 131 132)]) 131 3]
section
variable (x : Int) (n i l k sz : Nat) (I : Its) (W : Nat -> Int) (lm : LMap) (m : MS) (s : RSt)
end
theorem c14_38 {k : Nat} {W : Nat -> Int} (h0 : 0 < k) (hk : k <= 10000000000) : AtN 38 [sl60 k] [(60, wB0 k W)] (newS 130 (4 * k)) (mkH [(130, outB (4 * k) (bw W k))]) 130 1 :=
  ⟨rfl, adet_demote (o := true) (o' := false) (adet_of_body (b38 (C := k) (T := k) (W := W) h0 (Nat.le_refl k) hk) [(41, 60)] [(130, 100)] rfl rfl ⟨⟨rfl, rfl, fun j hj => rfl, .inr (.inr rfl), .inl rfl⟩, trivial⟩ rfl rfl ⟨bis_outB, bis_wB, trivial⟩ rfl) (by simp [mkH, fstL]) rfl⟩
def gR : Nat -> List Value := (itsR fun _ => gI).row
def gB (i : Nat) : Blk := .rows i 8 gR true false
abbrev vP2 (a b : Int) : Value := .agg ⟨[.int .u64 a, .int .u64 b]⟩
abbrev V15 (i : Nat) (g : Value) (a b q : Int) (bk : Bool) (n : Nat) : List Value := [.int .i64 (i : Int), g, .int .u64 a, .int .u64 b, .int .i64 q, .bool bk, .int .i64 (n : Int)]
abbrev goB (q : Int) : Blk := .var [.string ⟨#[]⟩, .int .i64 q, .int .i64 0, .int .i64 5, .int .i64 6, .int .i64 0, .string ⟨#[101, 110, 100]⟩, .int .i64 0]
def stp2 : Blk := .rows 2 8 (itsR fwC).row false false
def enR4 : Nat -> List Value := fun j => (itsR fwC).row (2 + j)
def enp4 : Blk := .rows 4 8 enR4 true false
abbrev pGo : Value := .pointer (some ⟨61, 0, some 0⟩)
abbrev sSt : Value := .slice (some ⟨62, 0, none⟩) 2 2
abbrev sEn : Value := .slice (some ⟨63, 0, none⟩) 4 4
abbrev R15 (a b q : Int) (bk : Bool) (n : Nat) : List Value := [.int .u64 a, .int .u64 b, .int .i64 q, .bool bk, .int .i64 (n : Int)]
abbrev h15 (q : Int) : List (Nat × Blk) := [(63, enp4), (62, stp2), (61, goB q)]
noncomputable abbrev sc15a (N : Nat) (I : Its) (k : Nat) (W : Nat -> Int) (lm : LMap) : Short := scOf [conAt 17 [sl60 N, .int .i64 0] [(60, itB8 I N)] (.tuple ⟨[.slice (some ⟨61, 0, none⟩) k k, .map (some 62), .int .i64 0]⟩) (mkH [(61, wB0 k W), (62, lm.blk)]) 61 2]
noncomputable abbrev sc15c (m : MS) (s : RSt) (c : Nat) : Short := scOf [conAt 24 [pAt 92, .slice none 0 0, .int .i64 ((4000 : Nat) : Int)] (m.HA 90 91 92) (resV24 s.m (vOa 131 false s.oN) (c : Nat) s.mark) (upd24g 90 91 92 s.m false s.oN s.of (c : Nat) s.mark) 130 2]
def rB15 (st cd mk : Int) (c : Nat) : Blk := .var [.int .i64 st, .int .u8 cd, .int .i64 0, .slice none 0 0, .int .i64 (c : Int), .int .i64 mk]
end Go.X
