import Derived.Test.YtnekegldodbgjaaB37
set_option linter.all false
set_option linter.unusedVariables false
set_option linter.unusedSimpArgs false
namespace Go.X
open Go Go.Proofs
set_option linter.unusedVariables false
set_option linter.unusedSimpArgs false
attribute [local congr] cond_ctx
theorem p4_a (a : Int) (N C : Nat) (J : Nat → Ins) : walk (lookF FL) scP 1000 x4 (argTm 0 [Value.slice (some (Addr.mk 2 0 none)) N C, Value.int IntKind.i64 a]) (mkH [(2, Blk.rows N 5 (insR J) false true)]) 100 (Pj.mk [] [] [] []) (Pj.mk [4] [] [] [2]) (Pj.mk [31, 5, 6, 7, 30, 29, 1] [] [] [2]) = bif decide ((↑N : Int) > 300) then some (Stop.mk (Leaf.mk [some (true, Value.bool true)] [] Exit.ret 100) none) else some (Stop.mk (Leaf.mk [some (true, Value.int IntKind.i64 0), some (true, Value.slice none 0 0), some (true, Value.slice none 0 0), some (true, Value.bool true), some (true, Value.int IntKind.i64 (↑N : Int)), some (true, Value.slice (some (Addr.mk 2 0 none)) N C), some (true, Value.int IntKind.i64 (IntKind.i64.wrap (4 * IntKind.i64.wrap ((IntKind.u64.wrap a).tmod 1000000))))] [] Exit.normal 100) (some (x4_24, [Cx.bl 0, Cx.sq x4_62]))) := by kernel_rfl
theorem p4_b0 (N C : Nat) (J : Nat → Ins) (x : Int) : walk (lookF FL) scP 1000 x4_24 (mkT [31, 5, 6, 7, 30, 29, 1] [Value.int IntKind.i64 0, Value.slice none 0 0, Value.slice none 0 0, Value.bool true, Value.int IntKind.i64 (↑N : Int), Value.slice (some (Addr.mk 2 0 none)) N C, Value.int IntKind.i64 x]) (mkH [(2, Blk.rows N 5 (insR J) false true)]) 102 (Pj.mk [31, 5, 6, 7] [Ref.tmp 5, Ref.tmp 6] [30, 29, 1] [2]) (Pj.mk [] [] [] []) (Pj.mk [] [] [] []) = bif decide (0 < (↑N : Int)) then bif decide (0 < N) && intRange 0 N then some (Stop.mk (Leaf.mk [some (true, Value.int IntKind.i64 1), some (true, Value.slice (some (Addr.mk 104 0 none)) 1 1), some (true, Value.slice (some (Addr.mk 106 0 none)) 1 1), some (true, Value.bool ((encF (J 0).op (J 0).rd (J 0).rs1 (J 0).rs2 (J 0).imm).snd == 0))] [(104, some (Blk.rows 1 8 (rowCat (fun x ↦ []) 0 0 fun j ↦ slab [Value.string (ByteArray.mk #[]), Value.int IntKind.i64 (J 0).op, Value.int IntKind.i64 (J 0).rd, Value.int IntKind.i64 (J 0).rs1, Value.int IntKind.i64 (J 0).rs2, Value.int IntKind.i64 (J 0).imm, Value.string (ByteArray.mk #[]), Value.int IntKind.i64 0] (j * 8) 8) true false)), (106, some (Blk.rows 1 1 (rowCat (fun x ↦ []) 0 0 fun j ↦ slab [Value.int IntKind.u32 (encF (J 0).op (J 0).rd (J 0).rs1 (J 0).rs2 (J 0).imm).fst] (j * 1) 1) true false))] Exit.normal 107) none) else none else none := Eq.trans (b := bif decide (0 < (↑N : Int)) then bif (Nat.blt 0 N && true || false) && ((intRange 0 N && true || false) && true) then some (Stop.mk (Leaf.mk [some (true, Value.int IntKind.i64 1), some (true, Value.slice (some (Addr.mk 104 0 none)) 1 1), some (true, Value.slice (some (Addr.mk 106 0 none)) 1 1), some (true, Value.bool ((encF (J 0).op (J 0).rd (J 0).rs1 (J 0).rs2 (J 0).imm).snd == 0))] [(104, some (Blk.rows 1 8 (rowCat (fun x ↦ []) 0 0 fun j ↦ slab [Value.string (ByteArray.mk #[]), Value.int IntKind.i64 (J 0).op, Value.int IntKind.i64 (J 0).rd, Value.int IntKind.i64 (J 0).rs1, Value.int IntKind.i64 (J 0).rs2, Value.int IntKind.i64 (J 0).imm, Value.string (ByteArray.mk #[]), Value.int IntKind.i64 0] ((0 + j) * 8) 8) true false)), (106, some (Blk.rows 1 1 (rowCat (fun x ↦ []) 0 0 fun j ↦ slab [Value.int IntKind.u32 (encF (J 0).op (J 0).rd (J 0).rs1 (J 0).rs2 (J 0).imm).fst] ((0 + j) * 1) 1) true false))] Exit.normal 107) none) else none else none) (by kernel_rfl) (by simp (contextual := true) only [bn, bc])
theorem p4_b (k N C : Nat) (J : Nat → Ins) (x : Int) (g : Bool) (f : Nat → List Value) (u : Nat → List Value) : walk (lookF FL) scP 1000 x4_24 (mkT [31, 5, 6, 7, 30, 29, 1] [Value.int IntKind.i64 (↑k : Int), Value.slice (some (Addr.mk 100 0 none)) k k, Value.slice (some (Addr.mk 101 0 none)) k k, Value.bool g, Value.int IntKind.i64 (↑N : Int), Value.slice (some (Addr.mk 2 0 none)) N C, Value.int IntKind.i64 x]) (mkH [(100, Blk.rows k 8 f true false), (101, Blk.rows k 1 u true false), (2, Blk.rows N 5 (insR J) false true)]) 102 (Pj.mk [31, 5, 6, 7] [Ref.tmp 5, Ref.tmp 6] [30, 29, 1] [2]) (Pj.mk [] [] [] []) (Pj.mk [] [] [] []) = bif decide (k < N) then bif !decide (k + 1 ≤ k) && decide (k ≤ k) && decide ((k + 1) * 6 ≤ 1099511627776) && (!decide (k + 1 ≤ k) && decide (k ≤ k) && decide ((k + 1) * 89 ≤ 1099511627776)) then some (Stop.mk (Leaf.mk [some (true, Value.int IntKind.i64 (IntKind.i64.wrap ((↑k : Int) + 1))), some (true, Value.slice (some (Addr.mk 104 0 none)) (k + 1) (k + 1)), some (true, Value.slice (some (Addr.mk 106 0 none)) (k + 1) (k + 1)), some (true, Value.bool (g && (encF (J k).op (J k).rd (J k).rs1 (J k).rs2 (J k).imm).snd == 0))] [(104, some (Blk.rows (k + 1) 8 (rowCat f 0 k fun j ↦ slab [Value.string (ByteArray.mk #[]), Value.int IntKind.i64 (J k).op, Value.int IntKind.i64 (J k).rd, Value.int IntKind.i64 (J k).rs1, Value.int IntKind.i64 (J k).rs2, Value.int IntKind.i64 (J k).imm, Value.string (ByteArray.mk #[]), Value.int IntKind.i64 0] (j * 8) 8) true false)), (106, some (Blk.rows (k + 1) 1 (rowCat u 0 k fun j ↦ slab [Value.int IntKind.u32 (encF (J k).op (J k).rd (J k).rs1 (J k).rs2 (J k).imm).fst] (j * 1) 1) true false))] Exit.normal 107) none) else none else some (Stop.mk (Leaf.mk [some (true, Value.int IntKind.i64 (↑k : Int)), some (true, Value.slice (some (Addr.mk 100 0 none)) k k), some (true, Value.slice (some (Addr.mk 101 0 none)) k k), some (true, Value.bool g)] [(100, some (Blk.rows k 8 f true false)), (101, some (Blk.rows k 1 u true false))] (Exit.exit 0) 102) none) := Eq.trans (b := bif decide ((↑k : Int) < (↑N : Int)) then bif ((0 + (↑k : Int).toNat).blt N && true || false) && ((intRange (↑k : Int) N && true || false) && true) then bif ((g || !g) && true || false) && ((g && true || !g) && true) then bif !(k + 1).ble k && true && (k.ble k && (0 + k).ble k) && true && decide ((k + 1) * 6 ≤ 1099511627776) && true && (!(k + 1).ble k && true && (k.ble k && (0 + k).ble k) && true && decide ((k + 1) * 89 ≤ 1099511627776) && true && true) then some (Stop.mk (Leaf.mk [some (true, Value.int IntKind.i64 (IntKind.i64.wrap ((↑k : Int) + 1))), some (true, Value.slice (some (Addr.mk 104 0 none)) (k + 1) (k + 1)), some (true, Value.slice (some (Addr.mk 106 0 none)) (k + 1) (k + 1)), some (true, Value.bool (bif g then (encF (J (0 + (↑k : Int).toNat)).op (J (0 + (↑k : Int).toNat)).rd (J (0 + (↑k : Int).toNat)).rs1 (J (0 + (↑k : Int).toNat)).rs2 (J (0 + (↑k : Int).toNat)).imm).snd == 0 else false))] [(104, some (Blk.rows (k + 1) 8 (rowCat f 0 k fun j ↦ slab [Value.string (ByteArray.mk #[]), Value.int IntKind.i64 (J (0 + (↑k : Int).toNat)).op, Value.int IntKind.i64 (J (0 + (↑k : Int).toNat)).rd, Value.int IntKind.i64 (J (0 + (↑k : Int).toNat)).rs1, Value.int IntKind.i64 (J (0 + (↑k : Int).toNat)).rs2, Value.int IntKind.i64 (J (0 + (↑k : Int).toNat)).imm, Value.string (ByteArray.mk #[]), Value.int IntKind.i64 0] ((0 + j) * 8) 8) true false)), (106, some (Blk.rows (k + 1) 1 (rowCat u 0 k fun j ↦ slab [Value.int IntKind.u32 (encF (J (0 + (↑k : Int).toNat)).op (J (0 + (↑k : Int).toNat)).rd (J (0 + (↑k : Int).toNat)).rs1 (J (0 + (↑k : Int).toNat)).rs2 (J (0 + (↑k : Int).toNat)).imm).fst] ((0 + j) * 1) 1) true false))] Exit.normal 107) none) else none else none else none else some (Stop.mk (Leaf.mk [some (true, Value.int IntKind.i64 (↑k : Int)), some (true, Value.slice (some (Addr.mk 100 0 none)) k k), some (true, Value.slice (some (Addr.mk 101 0 none)) k k), some (true, Value.bool g)] [(100, some (Blk.rows k 8 f true false)), (101, some (Blk.rows k 1 u true false))] (Exit.exit 0) 102) none)) (by kernel_rfl) (by simp (contextual := true) only [bn, bc])
theorem p4_e (N C : Nat) (J : Nat → Ins) (x : Int) (g : Bool) (I : Its) (u : Nat → List Value) : walk (lookF FL) scP 1000 (XCode.region x4_28) (mkT [31, 5, 6, 7, 30, 29, 1] [Value.int IntKind.i64 (↑N : Int), Value.slice (some (Addr.mk 100 0 none)) N N, Value.slice (some (Addr.mk 101 0 none)) N N, Value.bool g, Value.int IntKind.i64 (↑N : Int), Value.slice (some (Addr.mk 2 0 none)) N C, Value.int IntKind.i64 x]) (mkH [(100, Blk.rows N 8 I.row true false), (101, Blk.rows N 1 u true false), (2, Blk.rows N 5 (insR J) false true)]) 102 (Pj.mk [12, 13, 14] [Ref.tmp 12, Ref.tmp 13] [6, 7] [101, 2]) (Pj.mk [] [] [] []) (Pj.mk [] [] [] []) = bif decP (N = N ∧ (∀ (j : Nat), j < N → [Value.string (I.lb j), Value.int IntKind.i64 (I.op j), Value.int IntKind.i64 (I.rd j), Value.int IntKind.i64 (I.rs1 j), Value.int IntKind.i64 (I.rs2 j), Value.int IntKind.i64 (I.imm j), Value.string (I.to j), Value.int IntKind.i64 (I.part j)] = [Value.string (I.lb j), Value.int IntKind.i64 (I.op j), Value.int IntKind.i64 (I.rd j), Value.int IntKind.i64 (I.rs1 j), Value.int IntKind.i64 (I.rs2 j), Value.int IntKind.i64 (I.imm j), Value.string (I.to j), Value.int IntKind.i64 (I.part j)]) ∧ N ≤ 1000000000 ∧ asmE I x N = 0 ∧ asmW I x N ≠ []) then some (Stop.mk (Leaf.mk [some (true, Value.slice (some (Addr.mk 102 0 none)) (asmW (itsOf I.row) x N).length (asmW (itsOf I.row) x N).length), some (true, Value.map (some 103)), some (true, Value.int IntKind.i64 0)] [(102, some (Blk.rows (asmW (itsOf I.row) x N).length 1 (fun j ↦ [Value.int IntKind.u32 ((asmW (itsOf I.row) x N).getD j 0)]) true false)), (103, some (Blk.map 9 3 (finA I x N).m.n (finA I x N).m.has fun q ↦ Value.int IntKind.i64 ((finA I x N).m.val q)))] Exit.normal 104) none) else none := Eq.trans (b := bif decP (N = N ∧ (∀ (j : Nat), j < N → [Value.string (I.lb j), Value.int IntKind.i64 (I.op j), Value.int IntKind.i64 (I.rd j), Value.int IntKind.i64 (I.rs1 j), Value.int IntKind.i64 (I.rs2 j), Value.int IntKind.i64 (I.imm j), Value.string (I.to j), Value.int IntKind.i64 (I.part j)] = [Value.string (I.lb j), Value.int IntKind.i64 (I.op j), Value.int IntKind.i64 (I.rd j), Value.int IntKind.i64 (I.rs1 j), Value.int IntKind.i64 (I.rs2 j), Value.int IntKind.i64 (I.imm j), Value.string (I.to j), Value.int IntKind.i64 (I.part j)]) ∧ N ≤ 1000000000 ∧ asmE I x N = 0 ∧ asmW I x N ≠ []) && true && true then some (Stop.mk (Leaf.mk [some (true, Value.slice (some (Addr.mk 102 0 none)) (asmW (itsOf I.row) x N).length (asmW (itsOf I.row) x N).length), some (true, Value.map (some 103)), some (true, Value.int IntKind.i64 0)] [(102, some (Blk.rows (asmW (itsOf I.row) x N).length 1 (fun j ↦ [Value.int IntKind.u32 ((asmW (itsOf I.row) x N).getD j 0)]) true false)), (103, some (Blk.map 9 3 (finA I x N).m.n (finA I x N).m.has fun q ↦ Value.int IntKind.i64 ((finA I x N).m.val q)))] Exit.normal 104) none) else none) (by kernel_rfl) (by simp (contextual := true) only [bn, bc])
theorem p4_f (N C : Nat) (J : Nat → Ins) (x : Int) (g : Bool) (I : Its) (u : Nat → List Value) : walk (lookF FL) scQ 1000 x4_62 (mkT [31, 5, 6, 7, 30, 29, 1] [Value.int IntKind.i64 (↑N : Int), Value.slice (some (Addr.mk 100 0 none)) N N, Value.slice (some (Addr.mk 101 0 none)) N N, Value.bool false, Value.int IntKind.i64 (↑N : Int), Value.slice (some (Addr.mk 2 0 none)) N C, Value.int IntKind.i64 x]) (mkH [(100, Blk.rows N 8 I.row true false), (101, Blk.rows N 1 u true false), (2, Blk.rows N 5 (insR J) false true)]) 102 (Pj.mk [] [] [] []) (Pj.mk [4] [] [] [2]) (Pj.mk [] [] [] []) = bif decP (N = N ∧ (∀ (j : Nat), j < N → [Value.string (I.lb j), Value.int IntKind.i64 (I.op j), Value.int IntKind.i64 (I.rd j), Value.int IntKind.i64 (I.rs1 j), Value.int IntKind.i64 (I.rs2 j), Value.int IntKind.i64 (I.imm j), Value.string (I.to j), Value.int IntKind.i64 (I.part j)] = [Value.string (I.lb j), Value.int IntKind.i64 (I.op j), Value.int IntKind.i64 (I.rd j), Value.int IntKind.i64 (I.rs1 j), Value.int IntKind.i64 (I.rs2 j), Value.int IntKind.i64 (I.imm j), Value.string (I.to j), Value.int IntKind.i64 (I.part j)]) ∧ N ≤ 1000000000 ∧ asmE I x N ≠ 0) then some (Stop.mk (Leaf.mk [some (true, Value.bool (asmE I x N == 2))] [] Exit.ret 102) none) else none := Eq.trans (b := bif (decP (N = N ∧ (∀ (j : Nat), j < N → [Value.string (I.lb j), Value.int IntKind.i64 (I.op j), Value.int IntKind.i64 (I.rd j), Value.int IntKind.i64 (I.rs1 j), Value.int IntKind.i64 (I.rs2 j), Value.int IntKind.i64 (I.imm j), Value.string (I.to j), Value.int IntKind.i64 (I.part j)] = [Value.string (I.lb j), Value.int IntKind.i64 (I.op j), Value.int IntKind.i64 (I.rd j), Value.int IntKind.i64 (I.rs1 j), Value.int IntKind.i64 (I.rs2 j), Value.int IntKind.i64 (I.imm j), Value.string (I.to j), Value.int IntKind.i64 (I.part j)]) ∧ N ≤ 1000000000 ∧ asmE I x N ≠ 0) && true || false) && true then bif ((asmE I x N == 2 || !asmE I x N == 2) && true || false) && ((asmE I x N == 2 && true || !asmE I x N == 2) && ((asmE I x N == 2 && (asmE I x N == 2 && true) || !asmE I x N == 2) && ((asmE I x N == 2 && true || !asmE I x N == 2) && ((asmE I x N == 2 && true || !asmE I x N == 2) && true)))) then some (Stop.mk (Leaf.mk [some (true, Value.bool (bif asmE I x N == 2 then true else false))] [] Exit.ret 102) none) else none else none) (by kernel_rfl) (by simp (contextual := true) only [bn, bc])
theorem p4_g (N L : Nat) (J : Nat → Ins) (u u2 : Nat → List Value) (m : LMap) : walk (lookF FL) scP 1000 x4_61 (mkT [12, 13, 14, 6, 7] [Value.slice (some (Addr.mk 102 0 none)) L L, Value.map (some 103), Value.int IntKind.i64 0, Value.slice (some (Addr.mk 101 0 none)) N N, Value.bool true]) (mkH [(102, Blk.rows L 1 u2 true false), (103, m.blk), (101, Blk.rows N 1 u true false), (2, Blk.rows N 5 (insR J) false true)]) 104 (Pj.mk [] [] [] []) (Pj.mk [4] [] [] [2]) (Pj.mk [90, 89] [] [12, 6] [102, 101, 2]) = bif (↑L : Int) != (↑N : Int) || (↑m.n : Int) != 0 then some (Stop.mk (Leaf.mk [some (true, Value.bool false)] [] Exit.ret 104) none) else some (Stop.mk (Leaf.mk [some (true, Value.int IntKind.i64 0), some (true, Value.int IntKind.i64 (↑L : Int))] [] Exit.normal 104) (some (x4_53, [Cx.bl 2, Cx.sq x4_58]))) := Eq.trans (b := bif ((!(↑L : Int) != (↑N : Int) || (↑L : Int) != (↑N : Int)) && true || false) && ((!(↑L : Int) != (↑N : Int) && true || !!(↑L : Int) != (↑N : Int)) && ((!(↑L : Int) != (↑N : Int) && true || !!(↑L : Int) != (↑N : Int)) && true)) then bif bif (↑L : Int) != (↑N : Int) then true else (↑m.n : Int) != 0 then some (Stop.mk (Leaf.mk [some (true, Value.bool false)] [] Exit.ret 104) none) else some (Stop.mk (Leaf.mk [some (true, Value.int IntKind.i64 0), some (true, Value.int IntKind.i64 (↑L : Int))] [] Exit.normal 104) (some (x4_53, [Cx.bl 2, Cx.sq x4_58]))) else none) (by kernel_rfl) (by simp (contextual := true) only [bn, bc])
theorem p4_h (k N : Nat) (J : Nat → Ins) (u v : Nat → Int) : walk (lookF FL) scP 1000 x4_53 (mkT [90, 89, 12, 6] [Value.int IntKind.i64 (↑k : Int), Value.int IntKind.i64 (↑N : Int), Value.slice (some (Addr.mk 102 0 none)) N N, Value.slice (some (Addr.mk 101 0 none)) N N]) (mkH [(102, Blk.rows N 1 (fun j ↦ [Value.int IntKind.u32 (v j)]) true false), (101, Blk.rows N 1 (fun j ↦ [Value.int IntKind.u32 (u j)]) true false), (2, Blk.rows N 5 (insR J) false true)]) 104 (Pj.mk [90] [] [89, 12, 6] [102, 101, 2]) (Pj.mk [4] [] [] [2]) (Pj.mk [] [] [] []) = bif decide (k < N) then bif v k != u k then some (Stop.mk (Leaf.mk [some (true, Value.bool false)] [] Exit.ret 104) none) else some (Stop.mk (Leaf.mk [some (true, Value.int IntKind.i64 (IntKind.i64.wrap ((↑k : Int) + 1)))] [] Exit.normal 104) none) else some (Stop.mk (Leaf.mk [some (true, Value.int IntKind.i64 (↑k : Int))] [] (Exit.exit 2) 104) none) := Eq.trans (b := bif decide ((↑k : Int) < (↑N : Int)) then bif ((0 + (↑k : Int).toNat).blt N && true || false) && ((intRange (↑k : Int) N && true || false) && (((0 + (↑k : Int).toNat).blt N && true || false) && ((intRange (↑k : Int) N && true || false) && true))) then bif v (0 + (↑k : Int).toNat) != u (0 + (↑k : Int).toNat) then some (Stop.mk (Leaf.mk [some (true, Value.bool false)] [] Exit.ret 104) none) else some (Stop.mk (Leaf.mk [some (true, Value.int IntKind.i64 (IntKind.i64.wrap ((↑k : Int) + 1)))] [] Exit.normal 104) none) else none else some (Stop.mk (Leaf.mk [some (true, Value.int IntKind.i64 (↑k : Int))] [] (Exit.exit 2) 104) none)) (by kernel_rfl) (by simp (contextual := true) only [bn, bc])
theorem p4_i (k N : Nat) (J : Nat → Ins) (u v : Nat → Int) : walk (lookF FL) scP 1000 x4_58 (mkT [90, 89, 12, 6] [Value.int IntKind.i64 (↑k : Int), Value.int IntKind.i64 (↑N : Int), Value.slice (some (Addr.mk 102 0 none)) N N, Value.slice (some (Addr.mk 101 0 none)) N N]) (mkH [(102, Blk.rows N 1 (fun j ↦ [Value.int IntKind.u32 (v j)]) true false), (101, Blk.rows N 1 (fun j ↦ [Value.int IntKind.u32 (u j)]) true false), (2, Blk.rows N 5 (insR J) false true)]) 104 (Pj.mk [] [] [] []) (Pj.mk [4] [] [] [2]) (Pj.mk [] [] [] []) = some (Stop.mk (Leaf.mk [some (true, Value.bool true)] [] Exit.ret 104) none) := by kernel_rfl
end Go.X
namespace Go.X
open Go Go.Proofs
set_option linter.unusedVariables false
set_option linter.unusedSimpArgs false
/-! ### Assemble of no items -/
abbrev zB (x : Int) : Blk := .var [.slice none 0 0, .slice (some ⟨100, 0, none⟩) 0 0, .int .i64 x, .map (some 101), .slice (some ⟨102, 0, none⟩) 0 0]
noncomputable abbrev ex39 (x : Int) : Option Ex := exec (lookF FL) scN 1000 [.go 0 false] x39 (argTm 0 [pp]) (mkH [(103, zB x)]) 104
noncomputable def okE : Option Ex → Bool
  | some r => r.ok
  | none => false
def okU : Option Ex → Option Unit
  | some r => (match r.ok with | true => some () | false => none)
  | none => none
theorem okU_ok : ∀ {r : Option Ex}, okU r = some () → okE r = true
  | some r, h => by
    unfold okU at h
    unfold okE
    cases hr : r.ok with
    | true => exact hr
    | false => simp only [hr] at h; cases h
theorem z39 (x : Int) : prj [2] [103] (ex39 x) = some ([some (true, .int .i64 0)], [some (zB x)], .ret, 104, okE (ex39 x)) := by kernel_rfl
section
attribute [local congr] cond_ctx
theorem k39 (x : Int) : okU (ex39 x) = bif !(x.tmod 4 != 0 || decide (x < 0) || decide (x > 4194304)) then some PUnit.unit else none := Eq.trans (b := bif (((!bif x.tmod 4 != 0 then true else decide (x < 0)) || bif x.tmod 4 != 0 then true else decide (x < 0)) && true || false) && (((!bif x.tmod 4 != 0 then true else decide (x < 0)) && true || !!bif x.tmod 4 != 0 then true else decide (x < 0)) && (((!bif x.tmod 4 != 0 then true else decide (x < 0)) && true || !!bif x.tmod 4 != 0 then true else decide (x < 0)) && (((!bif x.tmod 4 != 0 then true else decide (x < 0)) && true || !!bif x.tmod 4 != 0 then true else decide (x < 0)) && (((!bif x.tmod 4 != 0 then true else decide (x < 0)) && true || !!bif x.tmod 4 != 0 then true else decide (x < 0)) && (((!x.tmod 4 != 0 || x.tmod 4 != 0) && true || false) && ((!x.tmod 4 != 0 && true || !!x.tmod 4 != 0) && ((!x.tmod 4 != 0 && true || !!x.tmod 4 != 0) && ((!x.tmod 4 != 0 && true || !!x.tmod 4 != 0) && ((!x.tmod 4 != 0 && true || !!x.tmod 4 != 0) && true))))))))) && ((!bif bif x.tmod 4 != 0 then true else decide (x < 0) then true else decide (x > 4194304)) && true) && true then some PUnit.unit else none) (by kernel_rfl) (by simp (contextual := true) only [bn, bc])
end
theorem k39' {x : Int} (h : badAt x = false) : okE (ex39 x) = true := okU_ok ((k39 x).trans (show (bif !(badAt x) then some PUnit.unit else none) = some () by rw [h]; rfl))
theorem looks_map : ∀ {t : Tm} {ks : List Nat} {vs : List Value}, ks.map (look t) = vs.map (fun v => some (true, v)) → looks t ks = some vs
  | t, [], [], _ => rfl
  | t, k :: ks, v :: vs, h => by
    simp only [List.map_cons, List.cons.injEq] at h
    simp only [looks, h.1, looks_map h.2]
theorem b39z {x : Int} (hb : badAt x = false) : Body Try.prog 39 [pp] (mkH [(103, zB x)]) (.int .i64 0) [] 104 0 :=
  body_of mixed fx39 (by simp) fun ρ w hd => xwp_prj (E := envOf Try.prog 109 104 (mkH [(103, zB x)]) mixed ρ w hd) FOKN 1000 [.go 0 false] (z39 x) (k39' hb) fun t h ht hh => by
    refine ⟨.inr rfl, mkT [2] [.int .i64 0], weak [] rfl rfl (looks_ts (looks_map (vs := [.int .i64 0]) ht) rfl) ?_, rfl⟩
    have h3 : hget h 103 = some (zB x) := by simpa using hh
    refine ⟨?_, trivial⟩
    show (match hget h 103 with | some y => BIs Try.prog (stayOr 104 []) (zB x) y | none => False)
    rw [h3]
    exact rfl
abbrev zπ : List (Nat × Nat) := [(103, 103), (100, 100), (101, 101), (102, 102)]
theorem c39z {x : Int} (hb : badAt x = false) (n : Nat) : ADet Try.prog 39 [pp] (mkH [(103, zB x)]) (.int .i64 0) [] n 0 :=
  adet_of_body (b39z hb) zπ [] rfl rfl ⟨rfl, trivial⟩ rfl rfl ⟨rfl, trivial⟩ rfl
def zOf : Option Blk → Option Int
  | some (.var [.slice none 0 0, .slice (some ⟨100, 0, none⟩) 0 0, .int .i64 x, .map (some 101), .slice (some ⟨102, 0, none⟩) 0 0]) => some x
  | _ => none
theorem zOf_some {b : Option Blk} {x : Int} (h : zOf b = some x) : b = some (zB x) := by
  unfold zOf at h
  split at h
  · cases h; rfl
  · cases h
def con39z : Con Try.prog where
  f := 39
  run := fun vs h n => match isPP vs, zOf (hget h 103) with
    | some [], some x => some (mkH [(103, zB x)], .int .i64 0, [], 0, !(badAt x))
    | _, _ => none
  ok := fun vs h n pre v upd news hx => by
    split at hx
    · rename_i x hp hz
      simp only [Option.some.injEq, Prod.mk.injEq] at hx
      obtain ⟨rfl, rfl, rfl, rfl, hb⟩ := hx
      have hb : badAt x = false := by simpa using hb
      have : vs = [pp] := by
        unfold isPP at hp; split at hp
        · cases hp; rfl
        · cases hp
      subst this
      refine ⟨fun id hid => ?_, c39z hb n⟩
      simp only [mkH, fstL, List.mem_cons, List.not_mem_nil, or_false] at hid
      subst hid
      rw [zOf_some hz]
      rfl
    · cases hx
noncomputable abbrev scZ : Short := scOf [con39z]
theorem FOKZ : FnsOK Try.prog (lookF FL) scZ := fok FOK _
noncomputable abbrev ex17 (x : Int) : Option Ex := exec (lookF FL) scZ 1000 [] x17 (argTm 0 [.slice none 0 0, .int .i64 x]) [] 100
theorem z17 (x : Int) : prj [4, 5, 6] [101] (ex17 x) = some ([some (true, .slice none 0 0), some (true, .map (some 101)), some (true, .int .i64 0)], [some m0.blk], .ret, 104, okE (ex17 x)) := by kernel_rfl
end Go.X
namespace Go.X
open Go Go.Proofs
set_option linter.unusedVariables false
set_option linter.unusedSimpArgs false
section
attribute [local congr] cond_ctx
theorem k17 (x : Int) : okU (ex17 x) = bif !(badAt x) then some PUnit.unit else none := Eq.trans (b := bif (!badAt x || false) && true && true && true then some PUnit.unit else none) (by kernel_rfl) (by simp (contextual := true) only [bn, bc])
end
theorem k17' {x : Int} (h : badAt x = false) : okE (ex17 x) = true := okU_ok ((k17 x).trans (by rw [h]; rfl))
theorem b17z {x : Int} (hb : badAt x = false) : Body Try.prog 17 [.slice none 0 0, .int .i64 x] [] (.tuple ⟨[.slice none 0 0, .map (some 101), .int .i64 0]⟩) [(101, some m0.blk)] 100 4 :=
  body_of mixed fx17 (by simp) fun ρ w hd => xwp_prj (E := envOf Try.prog 77 100 [] mixed ρ w hd) FOKZ 1000 [] (z17 x) (k17' hb) fun t h ht hh => by
    refine ⟨.inr rfl, mkT [4, 5, 6] [.slice none 0 0, .map (some 101), .int .i64 0], weak [(101, 101)] rfl rfl (looks_ts (looks_map (vs := [.slice none 0 0, .map (some 101), .int .i64 0]) ht) rfl) ?_, rfl⟩
    have h3 : hget h 101 = some m0.blk := by simpa using hh
    refine ⟨?_, trivial⟩
    show (match hget h 101 with | some y => BIs Try.prog (stayOr 100 [(101, 101)]) m0.blk y | none => False)
    rw [h3]
    exact bis_lmap
theorem c17z {x : Int} (hb : badAt x = false) (n : Nat) : ADet Try.prog 17 [.slice none 0 0, .int .i64 x] [] (.tuple ⟨[.slice none 0 0, .map (some n), .int .i64 0]⟩) [(n, some m0.blk)] n 1 := by
  have nn := beq_tt n
  have s1 : asc ([(n, 101)] ++ flip []) n = some 101 := by simp only [List.cons_append, flip, asc, nn, cond_true]
  refine adet_of_body (b17z hb) [] [(n, 101)] ?_ rfl trivial rfl ?_ ?_ ?_
  · refine (show (true && (Nat.ble n n && Nat.blt n (n + 1) && true) && true && true) = true from ?_)
    simp [lt_blt]
  · show (.tuple ⟨[.slice none 0 0, renP _ n 0 none _, .int .i64 0]⟩ : Value) = _
    simp only [renP, s1]
  · refine ⟨?_, trivial⟩
    rw [s1]
    exact bis_lmap
  · show nodupB (namesOf (asc ([(n, 101)] ++ flip [])) [] [(n, some m0.blk)]) = true
    simp only [namesOf, natMem, s1]
    rfl
def g17z : List Value → Option Int
  | [.slice none 0 0, .int .i64 x] => some x
  | _ => none
def con17z : Con Try.prog where
  f := 17
  run := fun vs h n => match g17z vs with
    | some x => some ([], .tuple ⟨[.slice none 0 0, .map (some n), .int .i64 0]⟩, [(n, some m0.blk)], 1, !(badAt x))
    | none => none
  ok := fun vs h n pre v upd news hx => by
    split at hx
    · rename_i x hz
      simp only [Option.some.injEq, Prod.mk.injEq] at hx
      obtain ⟨rfl, rfl, rfl, rfl, hb⟩ := hx
      have hb : badAt x = false := by simpa using hb
      have : vs = [.slice none 0 0, .int .i64 x] := by
        unfold g17z at hz; split at hz
        · cases hz; rfl
        · cases hz
      subst this
      exact ⟨fun id hid => by simp [fstL] at hid, c17z hb n⟩
    · cases hx
noncomputable abbrev scR : Short := scOf [con17z, con16, con18]
theorem FOKR : FnsOK Try.prog (lookF FL) scR := fok FOK _
end Go.X
