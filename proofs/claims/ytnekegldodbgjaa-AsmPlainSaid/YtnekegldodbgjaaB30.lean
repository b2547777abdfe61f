import Derived.Test.YtnekegldodbgjaaB29
set_option linter.all false
set_option linter.unusedVariables false
set_option linter.unusedSimpArgs false
namespace Go.X
open Go Go.Proofs
def g18 : List Value → Option Value
  | [.agg ⟨[.int .i64 op, .int .i64 rd, .int .i64 rs1, .int .i64 rs2, .int .i64 imm]⟩] => some (.tuple ⟨[.int .u32 (encF op rd rs1 rs2 imm).1, .int .i64 (encF op rd rs1 rs2 imm).2]⟩)
  | _ => none
def con18 : Con Try.prog := pureC 18 g18 fun vs v n h => by
  unfold g18 at h
  split at h
  · cases h; exact c18 _ _ _ _ _ n
  · cases h
abbrev scA : Short := scOf [con43, con18]
theorem FOKA : FnsOK Try.prog (lookF FL) scA := fok FOK _
def itV (lb to : ByteArray) (op rd rs1 rs2 imm part : Int) : Value := .agg ⟨[.string lb, .int .i64 op, .int .i64 rd, .int .i64 rs1, .int .i64 rs2, .int .i64 imm, .string to, .int .i64 part]⟩
end Go.X
namespace Go.X
open Go Go.Proofs
set_option linter.unusedVariables false
set_option linter.unusedSimpArgs false

theorem t44 (F : Int) : execC (lookF FL) noSc 1000 x44 (argTm 0 [Value.int IntKind.u8 F]) [] 100 (valK [2, 3]) = bif F == 73 then
  bif F == 73 then some [Value.int IntKind.i64 (-2048), Value.int IntKind.i64 2047]
  else
    bif F == 84 then some [Value.int IntKind.i64 0, Value.int IntKind.i64 63]
    else
      bif F == 66 then some [Value.int IntKind.i64 (-4096), Value.int IntKind.i64 4094]
      else
        bif F == 85 then some [Value.int IntKind.i64 (-524288), Value.int IntKind.i64 524287]
        else
          bif F == 74 then some [Value.int IntKind.i64 (-1048576), Value.int IntKind.i64 1048574]
          else some [Value.int IntKind.i64 1, Value.int IntKind.i64 0]
 else
  bif F == 83 then some [Value.int IntKind.i64 (-2048), Value.int IntKind.i64 2047]
  else
    bif F == 84 then some [Value.int IntKind.i64 0, Value.int IntKind.i64 63]
    else
      bif F == 66 then some [Value.int IntKind.i64 (-4096), Value.int IntKind.i64 4094]
      else
        bif F == 85 then some [Value.int IntKind.i64 (-524288), Value.int IntKind.i64 524287]
        else
          bif F == 74 then some [Value.int IntKind.i64 (-1048576), Value.int IntKind.i64 1048574]
          else some [Value.int IntKind.i64 1, Value.int IntKind.i64 0] := by kernel_rfl
def roomF (F : Int) : Int × Int := bif F == 73 then (-2048, 2047)
 else
  bif F == 83 then (-2048, 2047)
  else
    bif F == 84 then (0, 63)
    else
      bif F == 66 then (-4096, 4094)
      else bif F == 85 then (-524288, 524287) else bif F == 74 then (-1048576, 1048574) else (1, 0)
def mk44 (p : Int × Int) : Option (List Value) := some [Value.int IntKind.i64 p.1, Value.int IntKind.i64 p.2]
theorem mk44_cond (c : Bool) (p q : Int × Int) : mk44 (bif c then p else q) = bif c then mk44 p else mk44 q := by cases c <;> rfl
theorem p44 (F : Int) : execC (lookF FL) noSc 1000 x44 (argTm 0 [Value.int IntKind.u8 F]) [] 100 (valK [2, 3]) = mk44 (roomF F) := by
  rw [t44]
  try simp only [Bool.or_not_self, Bool.not_or_self, Bool.and_true, Bool.true_and, Bool.or_false, Bool.false_or, Bool.or_true, Bool.true_or, Bool.and_false, Bool.false_and, Bool.not_not, Bool.not_true, Bool.not_false, cond_true, cond_false, Bool.and_self, Bool.or_self, Bool.cond_true_left, Bool.cond_false_right, Bool.cond_true_right, Bool.cond_false_left, Bool.cond_self, cc_tt, cc_ff]
  unfold roomF
  try simp only [mk44_cond]
  rfl
theorem c44 (F : Int) (n : Nat) : ADet Try.prog 44 [Value.int IntKind.u8 F] [] (Value.tuple ⟨[Value.int IntKind.i64 (roomF F).1, Value.int IntKind.i64 (roomF F).2]⟩) [] n 0 := adet_tree FOK 1000 fx44 (by simp) [2, 3] (p44 F) rfl rfl rfl rfl n
def g44 : List Value → Option Value
  | [.int .u8 F] => some (Value.tuple ⟨[Value.int IntKind.i64 (roomF F).1, Value.int IntKind.i64 (roomF F).2]⟩)
  | _ => none
def con44 : Con Try.prog := pureC 44 g44 fun vs v n h => by
  unfold g44 at h
  split at h
  · cases h; exact c44 _ n
  · cases h
theorem t52 (op : Int) : execC (lookF FL) noSc 1000 x52 (argTm 0 [Value.int IntKind.i64 op]) [] 100 (valK [2]) = bif
    ((decide (op ≥ 45) || !decide (op ≥ 45)) && true || false) &&
      ((decide (op ≥ 45) && true || !decide (op ≥ 45)) && true) then
  some [Value.bool (bif decide (op ≥ 45) then decide (op ≤ 50) else false)]
 else none := by kernel_rfl
def branchF (op : Int) : Bool := decide (op ≥ 45) && decide (op ≤ 50)
def mk52 (p : Bool) : Option (List Value) := some [Value.bool p]
theorem mk52_cond (c : Bool) (p q : Bool) : mk52 (bif c then p else q) = bif c then mk52 p else mk52 q := by cases c <;> rfl
theorem p52 (op : Int) : execC (lookF FL) noSc 1000 x52 (argTm 0 [Value.int IntKind.i64 op]) [] 100 (valK [2]) = mk52 (branchF op) := by
  rw [t52]
  try simp only [Bool.or_not_self, Bool.not_or_self, Bool.and_true, Bool.true_and, Bool.or_false, Bool.false_or, Bool.or_true, Bool.true_or, Bool.and_false, Bool.false_and, Bool.not_not, Bool.not_true, Bool.not_false, cond_true, cond_false, Bool.and_self, Bool.or_self, Bool.cond_true_left, Bool.cond_false_right, Bool.cond_true_right, Bool.cond_false_left, Bool.cond_self, cc_tt, cc_ff]
  unfold branchF
  try simp only [mk52_cond]
  rfl
theorem c52 (op : Int) (n : Nat) : ADet Try.prog 52 [Value.int IntKind.i64 op] [] (Value.bool (branchF op)) [] n 0 := adet_tree FOK 1000 fx52 (by simp) [2] (p52 op) rfl rfl rfl rfl n
def g52 : List Value → Option Value
  | [.int .i64 op] => some (Value.bool (branchF op))
  | _ => none
def con52 : Con Try.prog := pureC 52 g52 fun vs v n h => by
  unfold g52 at h
  split at h
  · cases h; exact c52 _ n
  · cases h
theorem t54 (a : Int) : execC (lookF FL) noSc 1000 x54 (argTm 0 [Value.int IntKind.i64 a]) [] 100 (valK [2]) = some
  [Value.int IntKind.i64
      ((IntKind.i64.wrap
            (a - IntKind.i64.wrap (bits2 BinOp.xor IntKind.i64 (bits2 BinOp.and IntKind.i64 a 4095) 2048 - 2048))).fdiv
        4096)] := by kernel_rfl
def upperF (a : Int) : Int := (IntKind.i64.wrap
      (a - IntKind.i64.wrap (bits2 BinOp.xor IntKind.i64 (bits2 BinOp.and IntKind.i64 a 4095) 2048 - 2048))).fdiv
  4096
def mk54 (p : Int) : Option (List Value) := some [Value.int IntKind.i64 p]
theorem mk54_cond (c : Bool) (p q : Int) : mk54 (bif c then p else q) = bif c then mk54 p else mk54 q := by cases c <;> rfl
theorem p54 (a : Int) : execC (lookF FL) noSc 1000 x54 (argTm 0 [Value.int IntKind.i64 a]) [] 100 (valK [2]) = mk54 (upperF a) := by
  rw [t54]
  try simp only [Bool.or_not_self, Bool.not_or_self, Bool.and_true, Bool.true_and, Bool.or_false, Bool.false_or, Bool.or_true, Bool.true_or, Bool.and_false, Bool.false_and, Bool.not_not, Bool.not_true, Bool.not_false, cond_true, cond_false, Bool.and_self, Bool.or_self, Bool.cond_true_left, Bool.cond_false_right, Bool.cond_true_right, Bool.cond_false_left, Bool.cond_self, cc_tt, cc_ff]
  unfold upperF
  try simp only [mk54_cond]
  rfl
theorem c54 (a : Int) (n : Nat) : ADet Try.prog 54 [Value.int IntKind.i64 a] [] (Value.int IntKind.i64 (upperF a)) [] n 0 := adet_tree FOK 1000 fx54 (by simp) [2] (p54 a) rfl rfl rfl rfl n
def g54 : List Value → Option Value
  | [.int .i64 a] => some (Value.int IntKind.i64 (upperF a))
  | _ => none
def con54 : Con Try.prog := pureC 54 g54 fun vs v n h => by
  unfold g54 at h
  split at h
  · cases h; exact c54 _ n
  · cases h
theorem t55 (a : Int) : execC (lookF FL) noSc 1000 x55 (argTm 0 [Value.int IntKind.i64 a]) [] 100 (valK [2]) = some
  [Value.int IntKind.i64
      (IntKind.i64.wrap (bits2 BinOp.xor IntKind.i64 (bits2 BinOp.and IntKind.i64 a 4095) 2048 - 2048))] := by kernel_rfl
def lowerF (a : Int) : Int := IntKind.i64.wrap (bits2 BinOp.xor IntKind.i64 (bits2 BinOp.and IntKind.i64 a 4095) 2048 - 2048)
def mk55 (p : Int) : Option (List Value) := some [Value.int IntKind.i64 p]
theorem mk55_cond (c : Bool) (p q : Int) : mk55 (bif c then p else q) = bif c then mk55 p else mk55 q := by cases c <;> rfl
theorem p55 (a : Int) : execC (lookF FL) noSc 1000 x55 (argTm 0 [Value.int IntKind.i64 a]) [] 100 (valK [2]) = mk55 (lowerF a) := by
  rw [t55]
  try simp only [Bool.or_not_self, Bool.not_or_self, Bool.and_true, Bool.true_and, Bool.or_false, Bool.false_or, Bool.or_true, Bool.true_or, Bool.and_false, Bool.false_and, Bool.not_not, Bool.not_true, Bool.not_false, cond_true, cond_false, Bool.and_self, Bool.or_self, Bool.cond_true_left, Bool.cond_false_right, Bool.cond_true_right, Bool.cond_false_left, Bool.cond_self, cc_tt, cc_ff]
  unfold lowerF
  try simp only [mk55_cond]
  rfl
theorem c55 (a : Int) (n : Nat) : ADet Try.prog 55 [Value.int IntKind.i64 a] [] (Value.int IntKind.i64 (lowerF a)) [] n 0 := adet_tree FOK 1000 fx55 (by simp) [2] (p55 a) rfl rfl rfl rfl n
def g55 : List Value → Option Value
  | [.int .i64 a] => some (Value.int IntKind.i64 (lowerF a))
  | _ => none
def con55 : Con Try.prog := pureC 55 g55 fun vs v n h => by
  unfold g55 at h
  split at h
  · cases h; exact c55 _ n
  · cases h
theorem t56 (op : Int) : execC (lookF FL) noSc 1000 x56 (argTm 0 [Value.int IntKind.i64 op]) [] 100 (valK [2]) = some [Value.int IntKind.i64 (IntKind.i64.wrap (bits2 BinOp.xor IntKind.i64 (IntKind.i64.wrap (op - 45)) 1 + 45))] := by kernel_rfl
def oppF (op : Int) : Int := IntKind.i64.wrap (bits2 BinOp.xor IntKind.i64 (IntKind.i64.wrap (op - 45)) 1 + 45)
def mk56 (p : Int) : Option (List Value) := some [Value.int IntKind.i64 p]
theorem mk56_cond (c : Bool) (p q : Int) : mk56 (bif c then p else q) = bif c then mk56 p else mk56 q := by cases c <;> rfl
theorem p56 (op : Int) : execC (lookF FL) noSc 1000 x56 (argTm 0 [Value.int IntKind.i64 op]) [] 100 (valK [2]) = mk56 (oppF op) := by
  rw [t56]
  try simp only [Bool.or_not_self, Bool.not_or_self, Bool.and_true, Bool.true_and, Bool.or_false, Bool.false_or, Bool.or_true, Bool.true_or, Bool.and_false, Bool.false_and, Bool.not_not, Bool.not_true, Bool.not_false, cond_true, cond_false, Bool.and_self, Bool.or_self, Bool.cond_true_left, Bool.cond_false_right, Bool.cond_true_right, Bool.cond_false_left, Bool.cond_self, cc_tt, cc_ff]
  unfold oppF
  try simp only [mk56_cond]
  rfl
theorem c56 (op : Int) (n : Nat) : ADet Try.prog 56 [Value.int IntKind.i64 op] [] (Value.int IntKind.i64 (oppF op)) [] n 0 := adet_tree FOK 1000 fx56 (by simp) [2] (p56 op) rfl rfl rfl rfl n
def g56 : List Value → Option Value
  | [.int .i64 op] => some (Value.int IntKind.i64 (oppF op))
  | _ => none
def con56 : Con Try.prog := pureC 56 g56 fun vs v n h => by
  unfold g56 at h
  split at h
  · cases h; exact c56 _ n
  · cases h
abbrev scB : Short := scOf [con43, con18, con44, con52, con54, con55, con56]
theorem FOKB : FnsOK Try.prog (lookF FL) scB := fok FOK _
end Go.X
namespace Go.X
open Go Go.Proofs
set_option linter.unusedVariables false
set_option linter.unusedSimpArgs false

theorem t71 (op : Int) : execC (lookF FL) scB 1000 x71 (argTm 0 [Value.int IntKind.i64 op]) [] 100 (valK [2, 3]) = some
  [Value.int IntKind.i64 (roomF (rowOf (Value.int IntKind.i64 op)).fst).1,
    Value.int IntKind.i64 (roomF (rowOf (Value.int IntKind.i64 op)).fst).2] := by kernel_rfl
def roomOp (op : Int) : Int × Int := ((roomF (rowOf (Value.int IntKind.i64 op)).fst).1, (roomF (rowOf (Value.int IntKind.i64 op)).fst).2)
def mk71 (p : Int × Int) : Option (List Value) := some [Value.int IntKind.i64 p.1, Value.int IntKind.i64 p.2]
theorem mk71_cond (c : Bool) (p q : Int × Int) : mk71 (bif c then p else q) = bif c then mk71 p else mk71 q := by cases c <;> rfl
theorem p71 (op : Int) : execC (lookF FL) scB 1000 x71 (argTm 0 [Value.int IntKind.i64 op]) [] 100 (valK [2, 3]) = mk71 (roomOp op) := by
  rw [t71]
  try simp only [Bool.or_not_self, Bool.not_or_self, Bool.and_true, Bool.true_and, Bool.or_false, Bool.false_or, Bool.or_true, Bool.true_or, Bool.and_false, Bool.false_and, Bool.not_not, Bool.not_true, Bool.not_false, cond_true, cond_false, Bool.and_self, Bool.or_self, Bool.cond_true_left, Bool.cond_false_right, Bool.cond_true_right, Bool.cond_false_left, Bool.cond_self, cc_tt, cc_ff]
  unfold roomOp
  try simp only [mk71_cond]
  rfl
theorem c71 (op : Int) (n : Nat) : ADet Try.prog 71 [Value.int IntKind.i64 op] [] (Value.tuple ⟨[Value.int IntKind.i64 (roomOp op).1, Value.int IntKind.i64 (roomOp op).2]⟩) [] n 0 := adet_tree FOKB 1000 fx71 (by simp) [2, 3] (p71 op) rfl rfl rfl rfl n
def g71 : List Value → Option Value
  | [.int .i64 op] => some (Value.tuple ⟨[Value.int IntKind.i64 (roomOp op).1, Value.int IntKind.i64 (roomOp op).2]⟩)
  | _ => none
def con71 : Con Try.prog := pureC 71 g71 fun vs v n h => by
  unfold g71 at h
  split at h
  · cases h; exact c71 _ n
  · cases h
abbrev scC : Short := scOf [con43, con18, con44, con52, con54, con55, con56, con71]
theorem FOKC : FnsOK Try.prog (lookF FL) scC := fok FOK _
end Go.X
namespace Go.X
open Go Go.Proofs
set_option linter.unusedVariables false
set_option linter.unusedSimpArgs false

theorem t53 (op : Int) (by_ : Int) : execC (lookF FL) scC 1000 x53 (argTm 0 [Value.int IntKind.i64 op, Value.int IntKind.i64 by_]) [] 100 (valK [4]) = bif
    ((decide (by_ ≥ (roomF (rowOf (Value.int IntKind.i64 op)).fst).1) ||
            !decide (by_ ≥ (roomF (rowOf (Value.int IntKind.i64 op)).fst).1)) &&
          true ||
        false) &&
      ((decide (by_ ≥ (roomF (rowOf (Value.int IntKind.i64 op)).fst).1) &&
            (decide (by_ ≥ (roomF (rowOf (Value.int IntKind.i64 op)).fst).1) && true) ||
          !decide (by_ ≥ (roomF (rowOf (Value.int IntKind.i64 op)).fst).1)) &&
        true) then
  some
    [Value.bool
        (bif decide (by_ ≥ (roomF (rowOf (Value.int IntKind.i64 op)).fst).1) then
          decide (by_ ≤ (roomF (rowOf (Value.int IntKind.i64 op)).fst).2)
        else false)]
 else none := by kernel_rfl
def fitsF (op : Int) (by_ : Int) : Bool := decide (by_ ≥ (roomF (rowOf (Value.int IntKind.i64 op)).fst).1) &&
  decide (by_ ≤ (roomF (rowOf (Value.int IntKind.i64 op)).fst).2)
def mk53 (p : Bool) : Option (List Value) := some [Value.bool p]
theorem mk53_cond (c : Bool) (p q : Bool) : mk53 (bif c then p else q) = bif c then mk53 p else mk53 q := by cases c <;> rfl
theorem p53 (op : Int) (by_ : Int) : execC (lookF FL) scC 1000 x53 (argTm 0 [Value.int IntKind.i64 op, Value.int IntKind.i64 by_]) [] 100 (valK [4]) = mk53 (fitsF op by_) := by
  rw [t53]
  try simp only [Bool.or_not_self, Bool.not_or_self, Bool.and_true, Bool.true_and, Bool.or_false, Bool.false_or, Bool.or_true, Bool.true_or, Bool.and_false, Bool.false_and, Bool.not_not, Bool.not_true, Bool.not_false, cond_true, cond_false, Bool.and_self, Bool.or_self, Bool.cond_true_left, Bool.cond_false_right, Bool.cond_true_right, Bool.cond_false_left, Bool.cond_self, cc_tt, cc_ff]
  unfold fitsF
  try simp only [mk53_cond]
  rfl
theorem c53 (op : Int) (by_ : Int) (n : Nat) : ADet Try.prog 53 [Value.int IntKind.i64 op, Value.int IntKind.i64 by_] [] (Value.bool (fitsF op by_)) [] n 0 := adet_tree FOKC 1000 fx53 (by simp) [4] (p53 op by_) rfl rfl rfl rfl n
def g53 : List Value → Option Value
  | [.int .i64 op, .int .i64 by_] => some (Value.bool (fitsF op by_))
  | _ => none
def con53 : Con Try.prog := pureC 53 g53 fun vs v n h => by
  unfold g53 at h
  split at h
  · cases h; exact c53 _ _ n
  · cases h
theorem t51 (lb : ByteArray) (op : Int) (rd : Int) (rs1 : Int) (rs2 : Int) (imm : Int) (to : ByteArray) (part : Int) : execC (lookF FL) scC 1000 x51 (argTm 0 [Value.agg
    (Array.mk
      [Value.string lb, Value.int IntKind.i64 op, Value.int IntKind.i64 rd, Value.int IntKind.i64 rs1,
        Value.int IntKind.i64 rs2, Value.int IntKind.i64 imm, Value.string to, Value.int IntKind.i64 part])]) [] 100 (valK [2]) = bif !lb.toList == (ByteArray.mk #[]).toList then
  bif
      (((bif op == 0 && (rd == 0 && (rs1 == 0 && (rs2 == 0 && (imm == 0 && true)))) then
                to.toList == (ByteArray.mk #[]).toList
              else false) ||
              !bif op == 0 && (rd == 0 && (rs1 == 0 && (rs2 == 0 && (imm == 0 && true)))) then
                  to.toList == (ByteArray.mk #[]).toList
                else false) &&
            true ||
          false) &&
        (((bif op == 0 && (rd == 0 && (rs1 == 0 && (rs2 == 0 && (imm == 0 && true)))) then
                to.toList == (ByteArray.mk #[]).toList
              else false) &&
              true ||
            !bif op == 0 && (rd == 0 && (rs1 == 0 && (rs2 == 0 && (imm == 0 && true)))) then
                to.toList == (ByteArray.mk #[]).toList
              else false) &&
          (((bif op == 0 && (rd == 0 && (rs1 == 0 && (rs2 == 0 && (imm == 0 && true)))) then
                  to.toList == (ByteArray.mk #[]).toList
                else false) &&
                true ||
              !bif op == 0 && (rd == 0 && (rs1 == 0 && (rs2 == 0 && (imm == 0 && true)))) then
                  to.toList == (ByteArray.mk #[]).toList
                else false) &&
            (((op == 0 && (rd == 0 && (rs1 == 0 && (rs2 == 0 && (imm == 0 && true)))) ||
                    !(op == 0 && (rd == 0 && (rs1 == 0 && (rs2 == 0 && (imm == 0 && true)))))) &&
                  true ||
                false) &&
              ((op == 0 && (rd == 0 && (rs1 == 0 && (rs2 == 0 && (imm == 0 && true)))) && true ||
                  !(op == 0 && (rd == 0 && (rs1 == 0 && (rs2 == 0 && (imm == 0 && true)))))) &&
                ((op == 0 && (rd == 0 && (rs1 == 0 && (rs2 == 0 && (imm == 0 && true)))) && true ||
                    !(op == 0 && (rd == 0 && (rs1 == 0 && (rs2 == 0 && (imm == 0 && true)))))) &&
                  true))))) then
    some
      [Value.bool
          (bif
              bif op == 0 && (rd == 0 && (rs1 == 0 && (rs2 == 0 && (imm == 0 && true)))) then
                to.toList == (ByteArray.mk #[]).toList
              else false then
            part == 0
          else false)]
  else none
 else
  bif (encF op rd rs1 rs2 imm).2 != 0 then some [Value.bool false]
  else
    bif to.toList == (ByteArray.mk #[]).toList then some [Value.bool (part == 0)]
    else
      bif
          ((!(decide (op ≥ 45) && decide (op ≤ 50)) || decide (op ≥ 45) && decide (op ≤ 50)) && true || false) &&
            ((!(decide (op ≥ 45) && decide (op ≤ 50)) && true || !!(decide (op ≥ 45) && decide (op ≤ 50))) &&
              ((!(decide (op ≥ 45) && decide (op ≤ 50)) && true || !!(decide (op ≥ 45) && decide (op ≤ 50))) &&
                ((!(decide (op ≥ 45) && decide (op ≤ 50)) && true || !!(decide (op ≥ 45) && decide (op ≤ 50))) &&
                  true))) then
        bif bif decide (op ≥ 45) && decide (op ≤ 50) then true else op == 53 then
          bif
              ((part == 0 || !part == 0) && true || false) &&
                ((part == 0 && true || !part == 0) &&
                  ((part == 0 && true || !part == 0) && ((part == 0 && true || !part == 0) && true))) then
            some [Value.bool (bif part == 0 then imm == 0 else false)]
          else none
        else
          bif op == 51 then
            bif
                ((part == 1 || !part == 1) && true || false) &&
                  ((part == 1 && true || !part == 1) &&
                    ((part == 1 && true || !part == 1) && ((part == 1 && true || !part == 1) && true))) then
              some [Value.bool (bif part == 1 then imm == 0 else false)]
            else none
          else
            bif op == 28 then
              bif
                  ((part == 2 || !part == 2) && true || false) &&
                    ((part == 2 && true || !part == 2) &&
                      ((part == 2 && true || !part == 2) && ((part == 2 && true || !part == 2) && true))) then
                some [Value.bool (bif part == 2 then imm == 0 else false)]
              else none
            else some [Value.bool false]
      else none := by kernel_rfl
def goodF (lb : ByteArray) (op : Int) (rd : Int) (rs1 : Int) (rs2 : Int) (imm : Int) (to : ByteArray) (part : Int) : Bool := bif !lb.toList == (ByteArray.mk #[]).toList then
  op == 0 && (rd == 0 && (rs1 == 0 && (rs2 == 0 && imm == 0))) && to.toList == (ByteArray.mk #[]).toList && part == 0
 else
  bif (encF op rd rs1 rs2 imm).2 != 0 then false
  else
    bif to.toList == (ByteArray.mk #[]).toList then part == 0
    else
      bif decide (op ≥ 45) && decide (op ≤ 50) || op == 53 then part == 0 && imm == 0
      else bif op == 51 then part == 1 && imm == 0 else bif op == 28 then part == 2 && imm == 0 else false
def mk51 (p : Bool) : Option (List Value) := some [Value.bool p]
theorem mk51_cond (c : Bool) (p q : Bool) : mk51 (bif c then p else q) = bif c then mk51 p else mk51 q := by cases c <;> rfl
theorem p51 (lb : ByteArray) (op : Int) (rd : Int) (rs1 : Int) (rs2 : Int) (imm : Int) (to : ByteArray) (part : Int) : execC (lookF FL) scC 1000 x51 (argTm 0 [Value.agg
    (Array.mk
      [Value.string lb, Value.int IntKind.i64 op, Value.int IntKind.i64 rd, Value.int IntKind.i64 rs1,
        Value.int IntKind.i64 rs2, Value.int IntKind.i64 imm, Value.string to, Value.int IntKind.i64 part])]) [] 100 (valK [2]) = mk51 (goodF lb op rd rs1 rs2 imm to part) := by
  rw [t51]
  try simp only [Bool.or_not_self, Bool.not_or_self, Bool.and_true, Bool.true_and, Bool.or_false, Bool.false_or, Bool.or_true, Bool.true_or, Bool.and_false, Bool.false_and, Bool.not_not, Bool.not_true, Bool.not_false, cond_true, cond_false, Bool.and_self, Bool.or_self, Bool.cond_true_left, Bool.cond_false_right, Bool.cond_true_right, Bool.cond_false_left, Bool.cond_self, cc_tt, cc_ff]
  unfold goodF
  try simp only [mk51_cond]
  rfl
theorem c51 (lb : ByteArray) (op : Int) (rd : Int) (rs1 : Int) (rs2 : Int) (imm : Int) (to : ByteArray) (part : Int) (n : Nat) : ADet Try.prog 51 [Value.agg
    (Array.mk
      [Value.string lb, Value.int IntKind.i64 op, Value.int IntKind.i64 rd, Value.int IntKind.i64 rs1,
        Value.int IntKind.i64 rs2, Value.int IntKind.i64 imm, Value.string to, Value.int IntKind.i64 part])] [] (Value.bool (goodF lb op rd rs1 rs2 imm to part)) [] n 0 := adet_tree FOKC 1000 fx51 (by simp) [2] (p51 lb op rd rs1 rs2 imm to part) rfl rfl rfl rfl n
def g51 : List Value → Option Value
  | [.agg ⟨[.string lb, .int .i64 op, .int .i64 rd, .int .i64 rs1, .int .i64 rs2, .int .i64 imm, .string to, .int .i64 part]⟩] => some (Value.bool (goodF lb op rd rs1 rs2 imm to part))
  | _ => none
def con51 : Con Try.prog := pureC 51 g51 fun vs v n h => by
  unfold g51 at h
  split at h
  · cases h; exact c51 _ _ _ _ _ _ _ _ n
  · cases h
abbrev scD : Short := scOf [con43, con18, con44, con52, con54, con55, con56, con71, con53, con51]
theorem FOKD : FnsOK Try.prog (lookF FL) scD := fok FOK _
end Go.X
