import Derived.Test.YtnekegldodbgjaaC30
set_option linter.all false
set_option linter.unusedVariables false
set_option linter.unusedSimpArgs false
namespace Go.X
open Go Go.Proofs
/-- Items, by number. -/
structure Its where
  lb : Nat → ByteArray
  to : Nat → ByteArray
  op : Nat → Int
  rd : Nat → Int
  rs1 : Nat → Int
  rs2 : Nat → Int
  imm : Nat → Int
  part : Nat → Int
def Its.row (I : Its) : Nat → List Value := fun j => [.string (I.lb j), .int .i64 (I.op j), .int .i64 (I.rd j), .int .i64 (I.rs1 j), .int .i64 (I.rs2 j), .int .i64 (I.imm j), .string (I.to j), .int .i64 (I.part j)]
/-- A map of names to places. -/
structure LMap where
  n : Nat
  has : Value → Bool
  val : Value → Int
def LMap.blk (m : LMap) : Blk := .map 9 3 m.n m.has (fun q => .int .i64 (m.val q))
def ints (f : Nat → Int) : Nat → List Value := fun j => [.int .i64 (f j)]
def bools (f : Nat → Bool) : Nat → List Value := fun j => [.bool (f j)]
def laidB (N C : Nat) (at_ : Int) : Blk := .var [.slice (some ⟨2, 0, none⟩) N C, .slice (some ⟨100, 0, none⟩) N N, .int .i64 at_, .map (some 101), .slice (some ⟨102, 0, none⟩) N N]
def laidH (N C : Nat) (at_ : Int) (I : Its) (wd : Nat → Bool) (m : LMap) (pl : Nat → Int) : List (Nat × Blk) :=
  [(103, laidB N C at_), (2, .rows N 8 I.row false true), (100, .rows N 1 (bools wd) false false), (101, m.blk), (102, .rows N 1 (ints pl) false false)]
def laidL (N C : Nat) (at_ : Int) (I : Its) (wd : Nat → Bool) (m : LMap) (pl : Nat → Int) : List (Nat × Blk) :=
  [(101, m.blk), (102, .rows N 1 (ints pl) false false), (103, laidB N C at_), (2, .rows N 8 I.row false true), (100, .rows N 1 (bools wd) false false)]
def laidW (N C : Nat) (at_ : Int) (I : Its) (wd : Nat → Bool) (m : LMap) (pl : Nat → Int) : List (Nat × Blk) :=
  [(100, .rows N 1 (bools wd) false false), (103, laidB N C at_), (2, .rows N 8 I.row false true), (101, m.blk), (102, .rows N 1 (ints pl) false false)]
def laidM (N C : Nat) (at_ : Int) (I : Its) (wd : Nat → Bool) (m : LMap) (pl : Nat → Int) : List (Nat × Blk) :=
  [(101, m.blk), (103, laidB N C at_), (2, .rows N 8 I.row false true), (100, .rows N 1 (bools wd) false false), (102, .rows N 1 (ints pl) false false)]
def pp : Value := .pointer (some ⟨103, 0, some 0⟩)
abbrev laidR : List Ref := [.id 103, .id 2, .id 100, .id 101, .id 102]
def isE (s : ByteArray) : Bool := s.toList == (ByteArray.mk #[]).toList
def upd {α : Type} (f : Nat → α) (k : Nat) (v : α) : Nat → α := fun j => cond (Nat.beq j k) v (f j)
def LMap.set (m : LMap) (s : ByteArray) (v : Int) : LMap := ⟨bif m.has (.string s) then m.n else m.n + 1, fun q => keq q (.string s) || m.has q, fun q => bif keq q (.string s) then v else m.val q⟩
theorem rowSet_ints (f : Nat → Int) (k : Nat) (v : Int) : rowSet (ints f) k [.int .i64 v] = ints (upd f k v) := by
  funext j; simp only [rowSet, ints, upd]; cases Nat.beq j k <;> rfl
theorem rowSet_bools (f : Nat → Bool) (k : Nat) (v : Bool) : rowSet (bools f) k [.bool v] = bools (upd f k v) := by
  funext j; simp only [rowSet, bools, upd]; cases Nat.beq j k <;> rfl
theorem lmap_set (m : LMap) (s : ByteArray) (v : Int) : Blk.map 9 3 (bif m.has (.string s) then m.n else m.n + 1) (fun q => keq q (.string s) || m.has q) (fun q => bif keq q (.string s) then .int .i64 v else .int .i64 (m.val q)) = (m.set s v).blk := by
  simp only [LMap.blk, LMap.set]
  congr 1
  funext q; cases keq q (.string s) <;> rfl
theorem lmap_same (m : LMap) : Blk.map 9 3 m.n m.has (fun q => .int .i64 (m.val q)) = m.blk := rfl
theorem wrap_i {n : Int} (h : -9223372036854775808 ≤ n) (h' : n < 9223372036854775808) : IntKind.i64.wrap n = n := by
  rw [IntKind.wrap_i64]
  omega
theorem wrap_succ {k N : Nat} (h : k < N) (hN : N < 9223372036854775808) : IntKind.i64.wrap ((k : Int) + 1) = ((k + 1 : Nat) : Int) := by
  rw [wrap_i (by omega) (by omega)]; omega
end Go.X
