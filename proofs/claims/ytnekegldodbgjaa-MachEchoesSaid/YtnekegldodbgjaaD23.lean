import Derived.Test.YtnekegldodbgjaaD22
import Derived.Test.YtnekegldodbgjaaD21
import Derived.Test.YtnekegldodbgjaaD15
set_option linter.all false
set_option linter.unusedVariables false
set_option linter.unusedSimpArgs false
namespace Go.X
open Go Go.Proofs
set_option linter.unusedVariables false
set_option linter.unusedSimpArgs false
theorem do_1 (a b : Int) : execC (lookF FL) scN1 1000 x74 (argTm 0 [Value.int IntKind.i64 1, Value.int IntKind.u64 a, Value.int IntKind.u64 b]) [] 100 (valK [6, 7]) = some [Value.int IntKind.u64 (IntKind.u64.wrap (a + b)), Value.int IntKind.i64 0] := by kernel_rfl
theorem do_2 (a b : Int) : execC (lookF FL) scN1 1000 x74 (argTm 0 [Value.int IntKind.i64 2, Value.int IntKind.u64 a, Value.int IntKind.u64 b]) [] 100 (valK [6, 7]) = some [Value.int IntKind.u64 (IntKind.u64.wrap (a - b)), Value.int IntKind.i64 0] := by kernel_rfl
theorem do_3 (a b : Int) : execC (lookF FL) scN1 1000 x74 (argTm 0 [Value.int IntKind.i64 3, Value.int IntKind.u64 a, Value.int IntKind.u64 b]) [] 100 (valK [6, 7]) = some [Value.int IntKind.u64 (IntKind.u64.wrap (a * 2 ^ min (bits2 BinOp.and IntKind.u64 b 63).toNat 64)), Value.int IntKind.i64 0] := by kernel_rfl
theorem do_4 (a b : Int) : execC (lookF FL) scN1 1000 x74 (argTm 0 [Value.int IntKind.i64 4, Value.int IntKind.u64 a, Value.int IntKind.u64 b]) [] 100 (valK [6, 7]) = some [Value.int IntKind.u64 (bitF (decide (IntKind.i64.wrap a < IntKind.i64.wrap b))), Value.int IntKind.i64 0] := by kernel_rfl
theorem do_5 (a b : Int) : execC (lookF FL) scN1 1000 x74 (argTm 0 [Value.int IntKind.i64 5, Value.int IntKind.u64 a, Value.int IntKind.u64 b]) [] 100 (valK [6, 7]) = some [Value.int IntKind.u64 (bitF (decide (a < b))), Value.int IntKind.i64 0] := by kernel_rfl
theorem do_6 (a b : Int) : execC (lookF FL) scN1 1000 x74 (argTm 0 [Value.int IntKind.i64 6, Value.int IntKind.u64 a, Value.int IntKind.u64 b]) [] 100 (valK [6, 7]) = some [Value.int IntKind.u64 (bits2 BinOp.xor IntKind.u64 a b), Value.int IntKind.i64 0] := by kernel_rfl
theorem do_7 (a b : Int) : execC (lookF FL) scN1 1000 x74 (argTm 0 [Value.int IntKind.i64 7, Value.int IntKind.u64 a, Value.int IntKind.u64 b]) [] 100 (valK [6, 7]) = some [Value.int IntKind.u64 (a.fdiv (2 ^ min (bits2 BinOp.and IntKind.u64 b 63).toNat 64)), Value.int IntKind.i64 0] := by kernel_rfl
theorem do_8 (a b : Int) : execC (lookF FL) scN1 1000 x74 (argTm 0 [Value.int IntKind.i64 8, Value.int IntKind.u64 a, Value.int IntKind.u64 b]) [] 100 (valK [6, 7]) = some [Value.int IntKind.u64 (IntKind.u64.wrap ((IntKind.i64.wrap a).fdiv (2 ^ min (bits2 BinOp.and IntKind.u64 b 63).toNat 64))), Value.int IntKind.i64 0] := by kernel_rfl
theorem do_9 (a b : Int) : execC (lookF FL) scN1 1000 x74 (argTm 0 [Value.int IntKind.i64 9, Value.int IntKind.u64 a, Value.int IntKind.u64 b]) [] 100 (valK [6, 7]) = some [Value.int IntKind.u64 (bits2 BinOp.or IntKind.u64 a b), Value.int IntKind.i64 0] := by kernel_rfl
theorem do_10 (a b : Int) : execC (lookF FL) scN1 1000 x74 (argTm 0 [Value.int IntKind.i64 10, Value.int IntKind.u64 a, Value.int IntKind.u64 b]) [] 100 (valK [6, 7]) = some [Value.int IntKind.u64 (bits2 BinOp.and IntKind.u64 a b), Value.int IntKind.i64 0] := by kernel_rfl
theorem do_11 (a b : Int) : execC (lookF FL) scN1 1000 x74 (argTm 0 [Value.int IntKind.i64 11, Value.int IntKind.u64 a, Value.int IntKind.u64 b]) [] 100 (valK [6, 7]) = some [Value.int IntKind.u64 (IntKind.u64.wrap (a * b)), Value.int IntKind.i64 0] := by kernel_rfl
theorem do_12 (a b : Int) : execC (lookF FL) scN1 1000 x74 (argTm 0 [Value.int IntKind.i64 12, Value.int IntKind.u64 a, Value.int IntKind.u64 b]) [] 100 (valK [6, 7]) = some [Value.int IntKind.u64 (IntKind.u64.wrap (IntKind.u64.wrap (IntKind.u64.wrap (IntKind.u64.wrap (IntKind.u64.wrap (a.fdiv 4294967296 * b.fdiv 4294967296) + (IntKind.u64.wrap (IntKind.u64.wrap (a.fdiv 4294967296 * bits2 BinOp.and IntKind.u64 b 4294967295) + (IntKind.u64.wrap (bits2 BinOp.and IntKind.u64 a 4294967295 * bits2 BinOp.and IntKind.u64 b 4294967295)).fdiv 4294967296)).fdiv 4294967296) + (IntKind.u64.wrap (bits2 BinOp.and IntKind.u64 (IntKind.u64.wrap (IntKind.u64.wrap (a.fdiv 4294967296 * bits2 BinOp.and IntKind.u64 b 4294967295) + (IntKind.u64.wrap (bits2 BinOp.and IntKind.u64 a 4294967295 * bits2 BinOp.and IntKind.u64 b 4294967295)).fdiv 4294967296)) 4294967295 + IntKind.u64.wrap (bits2 BinOp.and IntKind.u64 a 4294967295 * b.fdiv 4294967296))).fdiv 4294967296) - IntKind.u64.wrap (b * bitF (decide (IntKind.i64.wrap a < 0)))) - IntKind.u64.wrap (a * bitF (decide (IntKind.i64.wrap b < 0))))), Value.int IntKind.i64 0] := by kernel_rfl
theorem do_13 (a b : Int) : execC (lookF FL) scN1 1000 x74 (argTm 0 [Value.int IntKind.i64 13, Value.int IntKind.u64 a, Value.int IntKind.u64 b]) [] 100 (valK [6, 7]) = some [Value.int IntKind.u64 (IntKind.u64.wrap (IntKind.u64.wrap (IntKind.u64.wrap (a.fdiv 4294967296 * b.fdiv 4294967296) + (IntKind.u64.wrap (IntKind.u64.wrap (a.fdiv 4294967296 * bits2 BinOp.and IntKind.u64 b 4294967295) + (IntKind.u64.wrap (bits2 BinOp.and IntKind.u64 a 4294967295 * bits2 BinOp.and IntKind.u64 b 4294967295)).fdiv 4294967296)).fdiv 4294967296) + (IntKind.u64.wrap (bits2 BinOp.and IntKind.u64 (IntKind.u64.wrap (IntKind.u64.wrap (a.fdiv 4294967296 * bits2 BinOp.and IntKind.u64 b 4294967295) + (IntKind.u64.wrap (bits2 BinOp.and IntKind.u64 a 4294967295 * bits2 BinOp.and IntKind.u64 b 4294967295)).fdiv 4294967296)) 4294967295 + IntKind.u64.wrap (bits2 BinOp.and IntKind.u64 a 4294967295 * b.fdiv 4294967296))).fdiv 4294967296)), Value.int IntKind.i64 0] := by kernel_rfl
theorem do_14 (a b : Int) : execC (lookF FL) scN1 1000 x74 (argTm 0 [Value.int IntKind.i64 14, Value.int IntKind.u64 a, Value.int IntKind.u64 b]) [] 100 (valK [6, 7]) = bif (uB b || false) && true then some [Value.int IntKind.u64 (partsF 14 a b), Value.int IntKind.i64 0] else none := by kernel_rfl
theorem do_15 (a b : Int) : execC (lookF FL) scN1 1000 x74 (argTm 0 [Value.int IntKind.i64 15, Value.int IntKind.u64 a, Value.int IntKind.u64 b]) [] 100 (valK [6, 7]) = bif (uB b || false) && true then some [Value.int IntKind.u64 (partsF 15 a b), Value.int IntKind.i64 0] else none := by kernel_rfl
theorem do_16 (a b : Int) : execC (lookF FL) scN1 1000 x74 (argTm 0 [Value.int IntKind.i64 16, Value.int IntKind.u64 a, Value.int IntKind.u64 b]) [] 100 (valK [6, 7]) = bif (uB b || false) && true then some [Value.int IntKind.u64 (partsF 16 a b), Value.int IntKind.i64 0] else none := by kernel_rfl
theorem do_17 (a b : Int) : execC (lookF FL) scN1 1000 x74 (argTm 0 [Value.int IntKind.i64 17, Value.int IntKind.u64 a, Value.int IntKind.u64 b]) [] 100 (valK [6, 7]) = bif (uB b || false) && true then some [Value.int IntKind.u64 (partsF 17 a b), Value.int IntKind.i64 0] else none := by kernel_rfl
theorem do_18 (a b : Int) : execC (lookF FL) scN1 1000 x74 (argTm 0 [Value.int IntKind.i64 18, Value.int IntKind.u64 a, Value.int IntKind.u64 b]) [] 100 (valK [6, 7]) = some [Value.int IntKind.u64 (narF 32 true (IntKind.u64.wrap (narF 32 true a + narF 32 true b))), Value.int IntKind.i64 0] := by kernel_rfl
theorem do_19 (a b : Int) : execC (lookF FL) scN1 1000 x74 (argTm 0 [Value.int IntKind.i64 19, Value.int IntKind.u64 a, Value.int IntKind.u64 b]) [] 100 (valK [6, 7]) = some [Value.int IntKind.u64 (narF 32 true (IntKind.u64.wrap (narF 32 true a - narF 32 true b))), Value.int IntKind.i64 0] := by kernel_rfl
theorem do_20 (a b : Int) : execC (lookF FL) scN1 1000 x74 (argTm 0 [Value.int IntKind.i64 20, Value.int IntKind.u64 a, Value.int IntKind.u64 b]) [] 100 (valK [6, 7]) = some [Value.int IntKind.u64 (narF 32 true (IntKind.u64.wrap (narF 32 true a * 2 ^ min (bits2 BinOp.and IntKind.u64 (bits2 BinOp.and IntKind.u64 (narF 32 true b) 31) 63).toNat 64))), Value.int IntKind.i64 0] := by kernel_rfl
theorem do_21 (a b : Int) : execC (lookF FL) scN1 1000 x74 (argTm 0 [Value.int IntKind.i64 21, Value.int IntKind.u64 a, Value.int IntKind.u64 b]) [] 100 (valK [6, 7]) = some [Value.int IntKind.u64 (narF 32 true ((narF 32 false a).fdiv (2 ^ min (bits2 BinOp.and IntKind.u64 (bits2 BinOp.and IntKind.u64 (narF 32 false b) 31) 63).toNat 64))), Value.int IntKind.i64 0] := by kernel_rfl
theorem do_22 (a b : Int) : execC (lookF FL) scN1 1000 x74 (argTm 0 [Value.int IntKind.i64 22, Value.int IntKind.u64 a, Value.int IntKind.u64 b]) [] 100 (valK [6, 7]) = some [Value.int IntKind.u64 (narF 32 true (IntKind.u64.wrap ((IntKind.i64.wrap (narF 32 true a)).fdiv (2 ^ min (bits2 BinOp.and IntKind.u64 (bits2 BinOp.and IntKind.u64 (narF 32 true b) 31) 63).toNat 64)))), Value.int IntKind.i64 0] := by kernel_rfl
theorem do_23 (a b : Int) : execC (lookF FL) scN1 1000 x74 (argTm 0 [Value.int IntKind.i64 23, Value.int IntKind.u64 a, Value.int IntKind.u64 b]) [] 100 (valK [6, 7]) = some [Value.int IntKind.u64 (narF 32 true (IntKind.u64.wrap (narF 32 true a * narF 32 true b))), Value.int IntKind.i64 0] := by kernel_rfl
theorem do_24 (a b : Int) : execC (lookF FL) scN1 1000 x74 (argTm 0 [Value.int IntKind.i64 24, Value.int IntKind.u64 a, Value.int IntKind.u64 b]) [] 100 (valK [6, 7]) = bif ((uB (narF 32 true b) || false) && true && true && true && true || false) && true then some [Value.int IntKind.u64 (narF 32 true (partsF 14 (narF 32 true a) (narF 32 true b))), Value.int IntKind.i64 0] else none := by kernel_rfl
theorem do_25 (a b : Int) : execC (lookF FL) scN1 1000 x74 (argTm 0 [Value.int IntKind.i64 25, Value.int IntKind.u64 a, Value.int IntKind.u64 b]) [] 100 (valK [6, 7]) = bif ((uB (narF 32 false b) || false) && true && true && true && true || false) && true then some [Value.int IntKind.u64 (narF 32 true (partsF 15 (narF 32 false a) (narF 32 false b))), Value.int IntKind.i64 0] else none := by kernel_rfl
theorem do_26 (a b : Int) : execC (lookF FL) scN1 1000 x74 (argTm 0 [Value.int IntKind.i64 26, Value.int IntKind.u64 a, Value.int IntKind.u64 b]) [] 100 (valK [6, 7]) = bif ((uB (narF 32 true b) || false) && true && true && true && true || false) && true then some [Value.int IntKind.u64 (narF 32 true (partsF 16 (narF 32 true a) (narF 32 true b))), Value.int IntKind.i64 0] else none := by kernel_rfl
theorem do_27 (a b : Int) : execC (lookF FL) scN1 1000 x74 (argTm 0 [Value.int IntKind.i64 27, Value.int IntKind.u64 a, Value.int IntKind.u64 b]) [] 100 (valK [6, 7]) = bif ((uB (narF 32 false b) || false) && true && true && true && true || false) && true then some [Value.int IntKind.u64 (narF 32 true (partsF 17 (narF 32 false a) (narF 32 false b))), Value.int IntKind.i64 0] else none := by kernel_rfl
def doF (op a b : Int) : Int :=
  match op with
  | 1 => (IntKind.u64.wrap (a + b))
  | 2 => (IntKind.u64.wrap (a - b))
  | 3 => (IntKind.u64.wrap (a * 2 ^ min (bits2 BinOp.and IntKind.u64 b 63).toNat 64))
  | 4 => (bitF (decide (IntKind.i64.wrap a < IntKind.i64.wrap b)))
  | 5 => (bitF (decide (a < b)))
  | 6 => (bits2 BinOp.xor IntKind.u64 a b)
  | 7 => (a.fdiv (2 ^ min (bits2 BinOp.and IntKind.u64 b 63).toNat 64))
  | 8 => (IntKind.u64.wrap ((IntKind.i64.wrap a).fdiv (2 ^ min (bits2 BinOp.and IntKind.u64 b 63).toNat 64)))
  | 9 => (bits2 BinOp.or IntKind.u64 a b)
  | 10 => (bits2 BinOp.and IntKind.u64 a b)
  | 11 => (IntKind.u64.wrap (a * b))
  | 12 => (IntKind.u64.wrap (IntKind.u64.wrap (IntKind.u64.wrap (IntKind.u64.wrap (IntKind.u64.wrap (a.fdiv 4294967296 * b.fdiv 4294967296) + (IntKind.u64.wrap (IntKind.u64.wrap (a.fdiv 4294967296 * bits2 BinOp.and IntKind.u64 b 4294967295) + (IntKind.u64.wrap (bits2 BinOp.and IntKind.u64 a 4294967295 * bits2 BinOp.and IntKind.u64 b 4294967295)).fdiv 4294967296)).fdiv 4294967296) + (IntKind.u64.wrap (bits2 BinOp.and IntKind.u64 (IntKind.u64.wrap (IntKind.u64.wrap (a.fdiv 4294967296 * bits2 BinOp.and IntKind.u64 b 4294967295) + (IntKind.u64.wrap (bits2 BinOp.and IntKind.u64 a 4294967295 * bits2 BinOp.and IntKind.u64 b 4294967295)).fdiv 4294967296)) 4294967295 + IntKind.u64.wrap (bits2 BinOp.and IntKind.u64 a 4294967295 * b.fdiv 4294967296))).fdiv 4294967296) - IntKind.u64.wrap (b * bitF (decide (IntKind.i64.wrap a < 0)))) - IntKind.u64.wrap (a * bitF (decide (IntKind.i64.wrap b < 0)))))
  | 13 => (IntKind.u64.wrap (IntKind.u64.wrap (IntKind.u64.wrap (a.fdiv 4294967296 * b.fdiv 4294967296) + (IntKind.u64.wrap (IntKind.u64.wrap (a.fdiv 4294967296 * bits2 BinOp.and IntKind.u64 b 4294967295) + (IntKind.u64.wrap (bits2 BinOp.and IntKind.u64 a 4294967295 * bits2 BinOp.and IntKind.u64 b 4294967295)).fdiv 4294967296)).fdiv 4294967296) + (IntKind.u64.wrap (bits2 BinOp.and IntKind.u64 (IntKind.u64.wrap (IntKind.u64.wrap (a.fdiv 4294967296 * bits2 BinOp.and IntKind.u64 b 4294967295) + (IntKind.u64.wrap (bits2 BinOp.and IntKind.u64 a 4294967295 * bits2 BinOp.and IntKind.u64 b 4294967295)).fdiv 4294967296)) 4294967295 + IntKind.u64.wrap (bits2 BinOp.and IntKind.u64 a 4294967295 * b.fdiv 4294967296))).fdiv 4294967296))
  | 14 => (partsF 14 a b)
  | 15 => (partsF 15 a b)
  | 16 => (partsF 16 a b)
  | 17 => (partsF 17 a b)
  | 18 => (narF 32 true (IntKind.u64.wrap (narF 32 true a + narF 32 true b)))
  | 19 => (narF 32 true (IntKind.u64.wrap (narF 32 true a - narF 32 true b)))
  | 20 => (narF 32 true (IntKind.u64.wrap (narF 32 true a * 2 ^ min (bits2 BinOp.and IntKind.u64 (bits2 BinOp.and IntKind.u64 (narF 32 true b) 31) 63).toNat 64)))
  | 21 => (narF 32 true ((narF 32 false a).fdiv (2 ^ min (bits2 BinOp.and IntKind.u64 (bits2 BinOp.and IntKind.u64 (narF 32 false b) 31) 63).toNat 64)))
  | 22 => (narF 32 true (IntKind.u64.wrap ((IntKind.i64.wrap (narF 32 true a)).fdiv (2 ^ min (bits2 BinOp.and IntKind.u64 (bits2 BinOp.and IntKind.u64 (narF 32 true b) 31) 63).toNat 64))))
  | 23 => (narF 32 true (IntKind.u64.wrap (narF 32 true a * narF 32 true b)))
  | 24 => (narF 32 true (partsF 14 (narF 32 true a) (narF 32 true b)))
  | 25 => (narF 32 true (partsF 15 (narF 32 false a) (narF 32 false b)))
  | 26 => (narF 32 true (partsF 16 (narF 32 true a) (narF 32 true b)))
  | _ => (narF 32 true (partsF 17 (narF 32 false a) (narF 32 false b)))
theorem uB_wrap (x : Int) : uB (IntKind.u64.wrap x) = true := by
  rw [uB_iff]
  have : IntKind.u64.wrap x = x % 18446744073709551616 := by simp [IntKind.wrap, IntKind.bits, IntKind.signed]
  omega
theorem uB_fdiv {x d : Int} (h : uB x = true) (hd : 0 < d) : uB (x.fdiv d) = true := by
  rw [uB_iff] at *
  rw [Int.fdiv_eq_ediv_of_nonneg _ (by omega)]
  have h1 : 0 ≤ x / d := Int.ediv_nonneg h.1 (by omega)
  have h2 : x / d ≤ x := Int.ediv_le_self _ h.1
  omega
theorem uB_nar (s : Bool) (a : Int) : uB (narF 32 s a) = true := by
  cases s
  · exact uB_fdiv (uB_wrap _) (by omega)
  · exact uB_wrap _
theorem dq1 (a b : Int) (h : uB b = true) : execC (lookF FL) scN1 1000 x74 (argTm 0 [.int .i64 1, .int .u64 a, .int .u64 b]) [] 100 (valK [6, 7]) = some [.int .u64 (doF 1 a b), .int .i64 0] := do_1 a b
theorem dq2 (a b : Int) (h : uB b = true) : execC (lookF FL) scN1 1000 x74 (argTm 0 [.int .i64 2, .int .u64 a, .int .u64 b]) [] 100 (valK [6, 7]) = some [.int .u64 (doF 2 a b), .int .i64 0] := do_2 a b
theorem dq3 (a b : Int) (h : uB b = true) : execC (lookF FL) scN1 1000 x74 (argTm 0 [.int .i64 3, .int .u64 a, .int .u64 b]) [] 100 (valK [6, 7]) = some [.int .u64 (doF 3 a b), .int .i64 0] := do_3 a b
theorem dq4 (a b : Int) (h : uB b = true) : execC (lookF FL) scN1 1000 x74 (argTm 0 [.int .i64 4, .int .u64 a, .int .u64 b]) [] 100 (valK [6, 7]) = some [.int .u64 (doF 4 a b), .int .i64 0] := do_4 a b
theorem dq5 (a b : Int) (h : uB b = true) : execC (lookF FL) scN1 1000 x74 (argTm 0 [.int .i64 5, .int .u64 a, .int .u64 b]) [] 100 (valK [6, 7]) = some [.int .u64 (doF 5 a b), .int .i64 0] := do_5 a b
theorem dq6 (a b : Int) (h : uB b = true) : execC (lookF FL) scN1 1000 x74 (argTm 0 [.int .i64 6, .int .u64 a, .int .u64 b]) [] 100 (valK [6, 7]) = some [.int .u64 (doF 6 a b), .int .i64 0] := do_6 a b
theorem dq7 (a b : Int) (h : uB b = true) : execC (lookF FL) scN1 1000 x74 (argTm 0 [.int .i64 7, .int .u64 a, .int .u64 b]) [] 100 (valK [6, 7]) = some [.int .u64 (doF 7 a b), .int .i64 0] := do_7 a b
theorem dq8 (a b : Int) (h : uB b = true) : execC (lookF FL) scN1 1000 x74 (argTm 0 [.int .i64 8, .int .u64 a, .int .u64 b]) [] 100 (valK [6, 7]) = some [.int .u64 (doF 8 a b), .int .i64 0] := do_8 a b
theorem dq9 (a b : Int) (h : uB b = true) : execC (lookF FL) scN1 1000 x74 (argTm 0 [.int .i64 9, .int .u64 a, .int .u64 b]) [] 100 (valK [6, 7]) = some [.int .u64 (doF 9 a b), .int .i64 0] := do_9 a b
theorem dq10 (a b : Int) (h : uB b = true) : execC (lookF FL) scN1 1000 x74 (argTm 0 [.int .i64 10, .int .u64 a, .int .u64 b]) [] 100 (valK [6, 7]) = some [.int .u64 (doF 10 a b), .int .i64 0] := do_10 a b
theorem dq11 (a b : Int) (h : uB b = true) : execC (lookF FL) scN1 1000 x74 (argTm 0 [.int .i64 11, .int .u64 a, .int .u64 b]) [] 100 (valK [6, 7]) = some [.int .u64 (doF 11 a b), .int .i64 0] := do_11 a b
theorem dq12 (a b : Int) (h : uB b = true) : execC (lookF FL) scN1 1000 x74 (argTm 0 [.int .i64 12, .int .u64 a, .int .u64 b]) [] 100 (valK [6, 7]) = some [.int .u64 (doF 12 a b), .int .i64 0] := do_12 a b
theorem dq13 (a b : Int) (h : uB b = true) : execC (lookF FL) scN1 1000 x74 (argTm 0 [.int .i64 13, .int .u64 a, .int .u64 b]) [] 100 (valK [6, 7]) = some [.int .u64 (doF 13 a b), .int .i64 0] := do_13 a b
theorem dq14 (a b : Int) (h : uB b = true) : execC (lookF FL) scN1 1000 x74 (argTm 0 [.int .i64 14, .int .u64 a, .int .u64 b]) [] 100 (valK [6, 7]) = some [.int .u64 (doF 14 a b), .int .i64 0] := by
  rw [do_14, h]; rfl
theorem dq15 (a b : Int) (h : uB b = true) : execC (lookF FL) scN1 1000 x74 (argTm 0 [.int .i64 15, .int .u64 a, .int .u64 b]) [] 100 (valK [6, 7]) = some [.int .u64 (doF 15 a b), .int .i64 0] := by
  rw [do_15, h]; rfl
theorem dq16 (a b : Int) (h : uB b = true) : execC (lookF FL) scN1 1000 x74 (argTm 0 [.int .i64 16, .int .u64 a, .int .u64 b]) [] 100 (valK [6, 7]) = some [.int .u64 (doF 16 a b), .int .i64 0] := by
  rw [do_16, h]; rfl
theorem dq17 (a b : Int) (h : uB b = true) : execC (lookF FL) scN1 1000 x74 (argTm 0 [.int .i64 17, .int .u64 a, .int .u64 b]) [] 100 (valK [6, 7]) = some [.int .u64 (doF 17 a b), .int .i64 0] := by
  rw [do_17, h]; rfl
theorem dq18 (a b : Int) (h : uB b = true) : execC (lookF FL) scN1 1000 x74 (argTm 0 [.int .i64 18, .int .u64 a, .int .u64 b]) [] 100 (valK [6, 7]) = some [.int .u64 (doF 18 a b), .int .i64 0] := do_18 a b
theorem dq19 (a b : Int) (h : uB b = true) : execC (lookF FL) scN1 1000 x74 (argTm 0 [.int .i64 19, .int .u64 a, .int .u64 b]) [] 100 (valK [6, 7]) = some [.int .u64 (doF 19 a b), .int .i64 0] := do_19 a b
theorem dq20 (a b : Int) (h : uB b = true) : execC (lookF FL) scN1 1000 x74 (argTm 0 [.int .i64 20, .int .u64 a, .int .u64 b]) [] 100 (valK [6, 7]) = some [.int .u64 (doF 20 a b), .int .i64 0] := do_20 a b
theorem dq21 (a b : Int) (h : uB b = true) : execC (lookF FL) scN1 1000 x74 (argTm 0 [.int .i64 21, .int .u64 a, .int .u64 b]) [] 100 (valK [6, 7]) = some [.int .u64 (doF 21 a b), .int .i64 0] := do_21 a b
theorem dq22 (a b : Int) (h : uB b = true) : execC (lookF FL) scN1 1000 x74 (argTm 0 [.int .i64 22, .int .u64 a, .int .u64 b]) [] 100 (valK [6, 7]) = some [.int .u64 (doF 22 a b), .int .i64 0] := do_22 a b
theorem dq23 (a b : Int) (h : uB b = true) : execC (lookF FL) scN1 1000 x74 (argTm 0 [.int .i64 23, .int .u64 a, .int .u64 b]) [] 100 (valK [6, 7]) = some [.int .u64 (doF 23 a b), .int .i64 0] := do_23 a b
theorem dq24 (a b : Int) (h : uB b = true) : execC (lookF FL) scN1 1000 x74 (argTm 0 [.int .i64 24, .int .u64 a, .int .u64 b]) [] 100 (valK [6, 7]) = some [.int .u64 (doF 24 a b), .int .i64 0] := by
  rw [do_24, uB_nar]; rfl
theorem dq25 (a b : Int) (h : uB b = true) : execC (lookF FL) scN1 1000 x74 (argTm 0 [.int .i64 25, .int .u64 a, .int .u64 b]) [] 100 (valK [6, 7]) = some [.int .u64 (doF 25 a b), .int .i64 0] := by
  rw [do_25, uB_nar]; rfl
theorem dq26 (a b : Int) (h : uB b = true) : execC (lookF FL) scN1 1000 x74 (argTm 0 [.int .i64 26, .int .u64 a, .int .u64 b]) [] 100 (valK [6, 7]) = some [.int .u64 (doF 26 a b), .int .i64 0] := by
  rw [do_26, uB_nar]; rfl
theorem dq27 (a b : Int) (h : uB b = true) : execC (lookF FL) scN1 1000 x74 (argTm 0 [.int .i64 27, .int .u64 a, .int .u64 b]) [] 100 (valK [6, 7]) = some [.int .u64 (doF 27 a b), .int .i64 0] := by
  rw [do_27, uB_nar]; rfl
theorem c74 {op : Int} (h1 : 1 ≤ op) (h2 : op ≤ 27) (a b : Int) (h : uB b = true) (n : Nat) : ADet Try.prog 74 [.int .i64 op, .int .u64 a, .int .u64 b] [] (.tuple ⟨[.int .u64 (doF op a b), .int .i64 0]⟩) [] n 0 := by
  obtain ⟨k, rfl⟩ : ∃ k : Nat, op = Int.ofNat k := ⟨op.toNat, by simp; omega⟩
  match k, h1, h2 with
  | 1, _, _ => exact adet_tree FOKN1 1000 fx74 (by simp) [6, 7] (dq1 a b h) rfl rfl rfl rfl n
  | 2, _, _ => exact adet_tree FOKN1 1000 fx74 (by simp) [6, 7] (dq2 a b h) rfl rfl rfl rfl n
  | 3, _, _ => exact adet_tree FOKN1 1000 fx74 (by simp) [6, 7] (dq3 a b h) rfl rfl rfl rfl n
  | 4, _, _ => exact adet_tree FOKN1 1000 fx74 (by simp) [6, 7] (dq4 a b h) rfl rfl rfl rfl n
  | 5, _, _ => exact adet_tree FOKN1 1000 fx74 (by simp) [6, 7] (dq5 a b h) rfl rfl rfl rfl n
  | 6, _, _ => exact adet_tree FOKN1 1000 fx74 (by simp) [6, 7] (dq6 a b h) rfl rfl rfl rfl n
  | 7, _, _ => exact adet_tree FOKN1 1000 fx74 (by simp) [6, 7] (dq7 a b h) rfl rfl rfl rfl n
  | 8, _, _ => exact adet_tree FOKN1 1000 fx74 (by simp) [6, 7] (dq8 a b h) rfl rfl rfl rfl n
  | 9, _, _ => exact adet_tree FOKN1 1000 fx74 (by simp) [6, 7] (dq9 a b h) rfl rfl rfl rfl n
  | 10, _, _ => exact adet_tree FOKN1 1000 fx74 (by simp) [6, 7] (dq10 a b h) rfl rfl rfl rfl n
  | 11, _, _ => exact adet_tree FOKN1 1000 fx74 (by simp) [6, 7] (dq11 a b h) rfl rfl rfl rfl n
  | 12, _, _ => exact adet_tree FOKN1 1000 fx74 (by simp) [6, 7] (dq12 a b h) rfl rfl rfl rfl n
  | 13, _, _ => exact adet_tree FOKN1 1000 fx74 (by simp) [6, 7] (dq13 a b h) rfl rfl rfl rfl n
  | 14, _, _ => exact adet_tree FOKN1 1000 fx74 (by simp) [6, 7] (dq14 a b h) rfl rfl rfl rfl n
  | 15, _, _ => exact adet_tree FOKN1 1000 fx74 (by simp) [6, 7] (dq15 a b h) rfl rfl rfl rfl n
  | 16, _, _ => exact adet_tree FOKN1 1000 fx74 (by simp) [6, 7] (dq16 a b h) rfl rfl rfl rfl n
  | 17, _, _ => exact adet_tree FOKN1 1000 fx74 (by simp) [6, 7] (dq17 a b h) rfl rfl rfl rfl n
  | 18, _, _ => exact adet_tree FOKN1 1000 fx74 (by simp) [6, 7] (dq18 a b h) rfl rfl rfl rfl n
  | 19, _, _ => exact adet_tree FOKN1 1000 fx74 (by simp) [6, 7] (dq19 a b h) rfl rfl rfl rfl n
  | 20, _, _ => exact adet_tree FOKN1 1000 fx74 (by simp) [6, 7] (dq20 a b h) rfl rfl rfl rfl n
  | 21, _, _ => exact adet_tree FOKN1 1000 fx74 (by simp) [6, 7] (dq21 a b h) rfl rfl rfl rfl n
  | 22, _, _ => exact adet_tree FOKN1 1000 fx74 (by simp) [6, 7] (dq22 a b h) rfl rfl rfl rfl n
  | 23, _, _ => exact adet_tree FOKN1 1000 fx74 (by simp) [6, 7] (dq23 a b h) rfl rfl rfl rfl n
  | 24, _, _ => exact adet_tree FOKN1 1000 fx74 (by simp) [6, 7] (dq24 a b h) rfl rfl rfl rfl n
  | 25, _, _ => exact adet_tree FOKN1 1000 fx74 (by simp) [6, 7] (dq25 a b h) rfl rfl rfl rfl n
  | 26, _, _ => exact adet_tree FOKN1 1000 fx74 (by simp) [6, 7] (dq26 a b h) rfl rfl rfl rfl n
  | 27, _, _ => exact adet_tree FOKN1 1000 fx74 (by simp) [6, 7] (dq27 a b h) rfl rfl rfl rfl n
  | 0, h1, _ => exact absurd h1 (by decide)
  | k + 28, _, h2 => exact absurd h2 (by simp; omega)
def con74 : Con Try.prog where
  f := 74
  run := fun vs _ _ => match vs with
    | [.int .i64 op, .int .u64 a, .int .u64 b] => some ([], .tuple ⟨[.int .u64 (doF op a b), .int .i64 0]⟩, [], 0, decide (1 ≤ op) && (decide (op ≤ 27) && uB b))
    | _ => none
  ok := fun vs h n pre v upd news hx => by
    split at hx
    · simp only [Option.some.injEq, Prod.mk.injEq, Bool.and_eq_true, decide_eq_true_eq] at hx
      obtain ⟨rfl, rfl, rfl, rfl, h1, h2, hu⟩ := hx
      exact ⟨fun id hid => by simp [fstL] at hid, c74 h1 h2 _ _ hu n⟩
    · cases hx
end Go.X
namespace Go.X
open Go Go.Proofs
set_option linter.unusedVariables false
set_option linter.unusedSimpArgs false

end Go.X
namespace Go.X
open Go Go.Proofs
set_option linter.unusedVariables false
set_option linter.unusedSimpArgs false

def fitsF (op : Int) (by_ : Int) : Bool := decide (by_ ≥ (roomF (rowOf (Value.int IntKind.i64 op)).fst).1) &&
  decide (by_ ≤ (roomF (rowOf (Value.int IntKind.i64 op)).fst).2)
def goodF (lb : ByteArray) (op : Int) (rd : Int) (rs1 : Int) (rs2 : Int) (imm : Int) (to : ByteArray) (part : Int) : Bool := bif !lb.toList == (ByteArray.mk #[]).toList then
  op == 0 && (rd == 0 && (rs1 == 0 && (rs2 == 0 && imm == 0))) && to.toList == (ByteArray.mk #[]).toList && part == 0
 else
  bif (encF op rd rs1 rs2 imm).2 != 0 then false
  else
    bif to.toList == (ByteArray.mk #[]).toList then part == 0
    else
      bif decide (op ≥ 45) && decide (op ≤ 50) || op == 53 then part == 0 && imm == 0
      else bif op == 51 then part == 1 && imm == 0 else bif op == 28 then part == 2 && imm == 0 else false
end Go.X
namespace Go.X
open Go Go.Proofs
structure Its where
  lb : Nat → ByteArray
  to : Nat → ByteArray
  op : Nat → Int
  rd : Nat → Int
  rs1 : Nat → Int
  rs2 : Nat → Int
  imm : Nat → Int
  part : Nat → Int
def Its.row (I : Its) : Nat → List Value := fun j => [.string (I.lb j), .int .i64 (I.op j), .int .i64 (I.rd j), .int .i64 (I.rs1 j), .int .i64 (I.rs2 j), .int .i64 (I.imm j), .string (I.to j), .int .i64 (I.part j)]
structure LMap where
  n : Nat
  has : Value → Bool
  val : Value → Int
def LMap.blk (m : LMap) : Blk := .map 9 3 m.n m.has (fun q => .int .i64 (m.val q))
def ints (f : Nat → Int) : Nat → List Value := fun j => [.int .i64 (f j)]
def bools (f : Nat → Bool) : Nat → List Value := fun j => [.bool (f j)]
def laidB (N C : Nat) (at_ : Int) : Blk := .var [.slice (some ⟨2, 0, none⟩) N C, .slice (some ⟨100, 0, none⟩) N N, .int .i64 at_, .map (some 101), .slice (some ⟨102, 0, none⟩) N N]
def laidH (N C : Nat) (at_ : Int) (I : Its) (wd : Nat → Bool) (m : LMap) (pl : Nat → Int) : List (Nat × Blk) :=
  [(103, laidB N C at_), (2, .rows N 8 I.row false true), (100, .rows N 1 (bools wd) false false), (101, m.blk), (102, .rows N 1 (ints pl) false false)]
def isE (s : ByteArray) : Bool := s.toList == (ByteArray.mk #[]).toList
def upd {α : Type} (f : Nat → α) (k : Nat) (v : α) : Nat → α := fun j => cond (Nat.beq j k) v (f j)
def LMap.set (m : LMap) (s : ByteArray) (v : Int) : LMap := ⟨bif m.has (.string s) then m.n else m.n + 1, fun q => keq q (.string s) || m.has q, fun q => bif keq q (.string s) then v else m.val q⟩
theorem wrap_i {n : Int} (h : -9223372036854775808 ≤ n) (h' : n < 9223372036854775808) : IntKind.i64.wrap n = n := by
  rw [IntKind.wrap_i64]
  omega
end Go.X
namespace Go.X
open Go Go.Proofs
set_option linter.unusedVariables false
set_option linter.unusedSimpArgs false
attribute [local congr] cond_ctx
end Go.X
namespace Go.X
open Go Go.Proofs
set_option linter.unusedVariables false
set_option linter.unusedSimpArgs false
theorem bis_rw {P : Program} {σ : Nm} {n s : Nat} {f : Nat → List Value} {o r : Bool} (h : ∀ j, j < n → rnL σ (f j) = f j) : BIs P σ (.rows n s f o r) (.rows n s f o r) :=
  ⟨rfl, rfl, h, by cases o <;> simp, by cases r <;> simp⟩
section
variable (N C : Nat) (at_ : Int) (I : Its)
structure LSt where
  cur : Int
  m : LMap
  pl : Nat → Int
def layStep (I : Its) (wd : Nat → Bool) (k : Nat) (s : LSt) : LSt :=
  bif isE (I.lb k) then ⟨bif wd k then IntKind.i64.wrap (s.cur + 8) else IntKind.i64.wrap (s.cur + 4), s.m, upd s.pl k s.cur⟩ else ⟨s.cur, s.m.set (I.lb k) s.cur, upd s.pl k s.cur⟩
def layIt (I : Its) (wd : Nat → Bool) (s : LSt) : Nat → LSt
  | 0 => s
  | k + 1 => layStep I wd k (layIt I wd s k)
def farF (I : Its) (m : LMap) (pl : Nat → Int) (wd : Nat → Bool) (k : Nat) : Bool :=
  isE (I.lb k) && branchF (I.op k) && !isE (I.to k) && !wd k && !fitsF (I.op k) (IntKind.i64.wrap (m.val (.string (I.to k)) - pl k))
structure WSt where
  more : Bool
  wd : Nat → Bool
def widStep (I : Its) (m : LMap) (pl : Nat → Int) (k : Nat) (s : WSt) : WSt := bif farF I m pl s.wd k then ⟨true, upd s.wd k true⟩ else s
def widIt (I : Its) (m : LMap) (pl : Nat → Int) (s : WSt) : Nat → WSt
  | 0 => s
  | k + 1 => widStep I m pl k (widIt I m pl s k)
variable (m : LMap) (pl : Nat → Int)
structure Ins where
  op : Int
  rd : Int
  rs1 : Int
  rs2 : Int
  imm : Int
def Ins.row (i : Ins) : List Value := [.int .i64 i.op, .int .i64 i.rd, .int .i64 i.rs1, .int .i64 i.rs2, .int .i64 i.imm]
def twoF (I : Its) (wd : Nat → Bool) (k : Nat) : Bool := !isE (I.to k) && (!(I.part k == 1) && (!(I.part k == 2) && wd k))
def wordA (I : Its) (wd : Nat → Bool) (m : LMap) (pl : Nat → Int) (k : Nat) : Ins :=
  bif isE (I.to k) then ⟨I.op k, I.rd k, I.rs1 k, I.rs2 k, I.imm k⟩
  else bif I.part k == 1 then ⟨I.op k, I.rd k, I.rs1 k, I.rs2 k, upperF (m.val (.string (I.to k)))⟩
  else bif I.part k == 2 then ⟨I.op k, I.rd k, I.rs1 k, I.rs2 k, lowerF (m.val (.string (I.to k)))⟩
  else bif wd k then ⟨oppF (I.op k), I.rd k, I.rs1 k, I.rs2 k, 8⟩
  else ⟨I.op k, I.rd k, I.rs1 k, I.rs2 k, IntKind.i64.wrap (m.val (.string (I.to k)) - pl k)⟩
def wordJ (I : Its) (m : LMap) (pl : Nat → Int) (k : Nat) : Ins := ⟨53, 0, 0, 0, IntKind.i64.wrap (IntKind.i64.wrap (m.val (.string (I.to k)) - pl k) - 4)⟩
def wordI (I : Its) (wd : Nat → Bool) (m : LMap) (pl : Nat → Int) (k j : Nat) : Ins := cond (Nat.beq j 0) (wordA I wd m pl k) (wordJ I m pl k)
def wordsN (I : Its) (wd : Nat → Bool) (k : Nat) : Nat := bif twoF I wd k then 2 else 1
end
end Go.X
namespace Go.X
open Go Go.Proofs
set_option linter.unusedVariables false
set_option linter.unusedSimpArgs false
section
variable (N C : Nat) (at_ : Int) (I : Its)
def goodK (I : Its) (k : Nat) : Bool := goodF (I.lb k) (I.op k) (I.rd k) (I.rs1 k) (I.rs2 k) (I.imm k) (I.to k) (I.part k)
def goodTo (I : Its) : Nat → Bool
  | 0 => true
  | k + 1 => goodTo I k && goodK I k
structure CSt where
  m : LMap
  dup : Bool
def chkStep (I : Its) (k : Nat) (s : CSt) : CSt := bif s.dup then s else bif s.m.has (.string (I.lb k)) then ⟨s.m, true⟩ else ⟨bif isE (I.lb k) then s.m else s.m.set (I.lb k) 0, false⟩
def chkIt (I : Its) (m : LMap) : Nat → CSt
  | 0 => ⟨m, false⟩
  | k + 1 => chkStep I k (chkIt I m k)
def foundTo (I : Its) (m : LMap) : Nat → Bool
  | 0 => true
  | k + 1 => foundTo I m k && (isE (I.to k) || m.has (.string (I.to k)))
def badAt (at_ : Int) : Bool := at_.tmod 4 != 0 || decide (at_ < 0) || decide (at_ > 4194304)
def chkLate (I : Its) (at_ : Int) (N : Nat) : Bool := !(badAt at_) && (!(decide ((N : Int) > 65536)) && goodTo I N)
def checkE (I : Its) (at_ : Int) (N : Nat) (m : LMap) : Int :=
  bif badAt at_ then 1 else bif decide ((N : Int) > 65536) then 3 else bif !goodTo I N then 2 else bif (chkIt I m N).dup then 18 else bif !foundTo I (chkIt I m N).m N then 17 else 0
def checkM (I : Its) (at_ : Int) (N : Nat) (m : LMap) : LMap := bif chkLate I at_ N then (chkIt I m N).m else m
variable (wd : Nat → Bool) (pl : Nat → Int)
end
end Go.X
namespace Go.X
open Go Go.Proofs
set_option linter.unusedVariables false
set_option linter.unusedSimpArgs false
structure LD where
  N : Nat
  C : Nat
  at_ : Int
  I : Its
  wd : Nat → Bool
  m : LMap
  pl : Nat → Int
def LD.H (D : LD) : List (Nat × Blk) := laidH D.N D.C D.at_ D.I D.wd D.m D.pl
def LD.At (D : LD) (h : Hp) : Prop :=
  hget h 103 = some (laidB D.N D.C D.at_) ∧ hget h 2 = some (.rows D.N 8 D.I.row false true) ∧ hget h 100 = some (.rows D.N 1 (bools D.wd) false false) ∧ hget h 101 = some D.m.blk ∧ hget h 102 = some (.rows D.N 1 (ints D.pl) false false) ∧ D.N < 9223372036854775808
theorem LD.At.pre {D : LD} {h : Hp} (H : D.At h) : ∀ id ∈ fstL (mkH D.H), hget h id = hget (mkH D.H) id := by
  obtain ⟨h1, h2, h3, h4, h5, _⟩ := H
  intro id hid
  simp only [LD.H, laidH, mkH, fstL, List.mem_cons, List.not_mem_nil, or_false] at hid
  rcases hid with rfl | rfl | rfl | rfl | rfl
  · exact h1
  · exact h2
  · exact h3
  · exact h4
  · exact h5
section
variable (N C : Nat) (at_ : Int) (I : Its) (wd : Nat → Bool) (m : LMap) (pl : Nat → Int)
end
end Go.X
namespace Go.X
open Go Go.Proofs
set_option linter.unusedVariables false
set_option linter.unusedSimpArgs false
attribute [local congr] cond_ctx
end Go.X
namespace Go.X
open Go Go.Proofs
set_option linter.unusedVariables false
set_option linter.unusedSimpArgs false
structure ASt where
  wd : Nat → Bool
  m : LMap
  pl : Nat → Int
def widN (I : Its) (N : Nat) (s : ASt) : WSt := widIt I s.m s.pl ⟨false, s.wd⟩ N
def nextA (I : Its) (at_ : Int) (N : Nat) (s : ASt) : ASt :=
  ⟨(widN I N s).wd, (layIt I (widN I N s).wd ⟨at_, s.m, s.pl⟩ N).m, (layIt I (widN I N s).wd ⟨at_, s.m, s.pl⟩ N).pl⟩
def fixN (I : Its) (at_ : Int) (N : Nat) : Nat → ASt → ASt
  | 0, s => s
  | f + 1, s => bif (widN I N s).more then fixN I at_ N f (nextA I at_ N s) else s
def insK (I : Its) (s : ASt) (k j : Nat) : List Ins := (List.range j).map (wordI I s.wd s.m s.pl k)
def insTo (I : Its) (s : ASt) : Nat → List Ins
  | 0 => []
  | k + 1 => insTo I s k ++ (bif isE (I.lb k) then insK I s k (wordsN I s.wd k) else [])
def okI (i : Ins) : Bool := (encF i.op i.rd i.rs1 i.rs2 i.imm).2 == 0
def encW (i : Ins) : Int := (encF i.op i.rd i.rs1 i.rs2 i.imm).1
def m0 : LMap := ⟨0, fun _ => false, fun _ => 0⟩
def startA (I : Its) (at_ : Int) (N : Nat) : ASt := ⟨fun _ => false, (layIt I (fun _ => false) ⟨at_, checkM I at_ N m0, fun _ => 0⟩ N).m, (layIt I (fun _ => false) ⟨at_, checkM I at_ N m0, fun _ => 0⟩ N).pl⟩
def finA (I : Its) (at_ : Int) (N : Nat) : ASt := fixN I at_ N (N + 1) (startA I at_ N)
def asmW (I : Its) (at_ : Int) (N : Nat) : List Int := (insTo I (finA I at_ N) N).map encW
def asmE (I : Its) (at_ : Int) (N : Nat) : Int :=
  bif checkE I at_ N m0 != 0 then checkE I at_ N m0 else bif !(insTo I (finA I at_ N) N).all okI then 16 else bif decide (((asmW I at_ N).length : Int) > 65536) then 3 else 0
end Go.X
namespace Go.X
open Go Go.Proofs
set_option linter.unusedVariables false
set_option linter.unusedSimpArgs false
section
variable (N C : Nat) (at_ : Int) (I : Its)
variable {ρ : Rn} {w : World} {hd : ∀ id, 100 ≤ id → ρ id = none}
end
end Go.X
namespace Go.X
open Go Go.Proofs
set_option linter.unusedVariables false
set_option linter.unusedSimpArgs false
section
variable (N C : Nat) (at_ : Int) (I : Its)
variable {ρ : Rn} {w : World} {hd : ∀ id, 100 ≤ id → ρ id = none}
end
end Go.X
namespace Go.X
open Go Go.Proofs
set_option linter.unusedVariables false
set_option linter.unusedSimpArgs false
section
variable (N C : Nat) (at_ : Int) (I : Its)
variable {ρ : Rn} {w : World} {hd : ∀ id, 100 ≤ id → ρ id = none}
end
section
variable (N C : Nat) (at_ : Int) (I : Its)
end
end Go.X
namespace Go.X
open Go

end Go.X
namespace Go.X
open Go Go.Proofs
set_option linter.unusedVariables false
set_option linter.unusedSimpArgs false
theorem beq_ff {a b : Nat} (h : a ≠ b) : Nat.beq a b = false := by
  cases hb : Nat.beq a b with
  | false => rfl
  | true => exact absurd (Nat.eq_of_beq_eq_true hb) h
end Go.X
namespace Go.X
open Go Go.Proofs
set_option linter.unusedVariables false
end Go.X
namespace Go.X
open Go Go.Proofs
set_option linter.unusedVariables false
set_option linter.unusedSimpArgs false
theorem xwp_seqW {E : FEnv} {Q : Post} {s : St} {F : Fns} {sc : Short} {x y : XCode} {p r q : Pj} {l : Leaf} (hcl : Cl E.toEnv Q) (hF : FnsOK E.P F sc) (k : Nat) (he : walk F sc k x s.t s.h s.n p r q = some ⟨l, none⟩) (hn : l.e = .normal) (s' : St)
    (hl : LeafTo E ((pjOf p r l.e).ks ++ (pjOf p r l.e).uk) (ext (pjOf p r l.e) s.t s.h l) s') (hQ : XWP E.toEnv y Q s') : XWP E.toEnv (.seq x y) Q s :=
  xwp_seq (xwp_toEnd (cl_seqP hcl) hF k he s' hl (by rw [hn]; exact hQ))
end Go.X
