import Derived.Test.YtnekegldodbgjaaJ15
import Derived.Test.YtnekegldodbgjaaProg
import Derived.KernelRfl
set_option linter.all false
namespace Go.X
open Go Go.Proofs



instance (n : Nat) : OfNat Operand n := ⟨.tmp n⟩
abbrev L_ := List XOper
abbrev C_ := XCode
abbrev r_ (l : L_) : C_ := .region l
def zs_ (k : IntKind) (n : Nat) : List Value := List.replicate n (.int k 0)
def ci_ (n : Int) : Operand := .const (.int .i64 n)
def mv_ (n : Nat) : XOp := .mv (.tmp n)
def oq_ (d : Nat) (o : XOp) : XOper := ⟨some d, .op o, none⟩
def og_ (d c : Nat) (b : Bool) (o : XOp) : XOper := ⟨some d, .op o, some (c, b)⟩
def oc_ (d f : Nat) (l : List Operand) : XOper := ⟨some d, .callF f l, none⟩
def on_ (o : XOp) : XOper := ⟨none, .op o, none⟩
def x14_0 : L_ := [oq_ 4 (.mv (.const (.bool false)))]
def x14_1 : L_ := [oc_ 12 16 [],
 oq_ 13 (.un .not 12)]
def x14_2 : L_ := [oq_ 4 (.mv (.const (.bool false)))]
def x14_3 : C_ := .seq (r_ x14_2) .ret
def x14_4 : C_ := .cnd 13 x14_3 .skip
def x14_5 : C_ := .seq (r_ x14_1) x14_4
def x14_6 : L_ := [oq_ 14 (mv_ 0),
 oq_ 15 (.conv .u64 14),
 oq_ 16 (.bin .rem 15 (.const (.int .u64 1000))),
 oq_ 17 (.conv .i64 16),
 oq_ 18 (.bin .mul (ci_ 4) 17),
 oq_ 19 (mv_ 1),
 oq_ 20 (.conv .u64 19),
 oq_ 21 (.bin .rem 20 (.const (.int .u64 1500))),
 oq_ 22 (.conv .i64 21),
 oq_ 0 (mv_ 18),
 oq_ 1 (mv_ 22)]
def x14_7 : L_ := [oq_ 23 (.build (zs_ .i64 5) [(0, 1, (ci_ 51)), (1, 1, (ci_ 5))]),
 oq_ 24 (.build [(.string ⟨#[]⟩), (.int .i64 0), (.int .i64 0), (.int .i64 0), (.int .i64 0), (.int .i64 0), (.string ⟨#[]⟩), (.int .i64 0)] [(1, 5, 23), (6, 1, (.const (.string ⟨#[120]⟩))), (7, 1, (ci_ 1))]),
 oq_ 25 (.build (zs_ .i64 5) [(0, 1, (ci_ 28)), (1, 1, (ci_ 5)), (2, 1, (ci_ 5))]),
 oq_ 26 (.build [(.string ⟨#[]⟩), (.int .i64 0), (.int .i64 0), (.int .i64 0), (.int .i64 0), (.int .i64 0), (.string ⟨#[]⟩), (.int .i64 0)] [(1, 5, 25), (6, 1, (.const (.string ⟨#[120]⟩))), (7, 1, (ci_ 2))]),
 oq_ 27 (.mkslice [(.string ⟨#[]⟩), (.int .i64 0), (.int .i64 0), (.int .i64 0), (.int .i64 0), (.int .i64 0), (.string ⟨#[]⟩), (.int .i64 0)] 2 [(0, 24), (1, 26)]),
 oq_ 5 (mv_ 27)]
def x14_8 : L_ := [oq_ 6 (.mv (ci_ 0))]
def x14_9 : L_ := [oq_ 28 (mv_ 6),
 oq_ 29 (mv_ 1),
 oq_ 30 (.bin .lss 28 29)]
def x14_10 : C_ := .cnd 30 .skip (.exit 0)
def x14_11 : C_ := .seq (r_ x14_9) x14_10
def x14_12 : L_ := [oq_ 33 (mv_ 5),
 oq_ 34 (.build (zs_ .i64 5) [(0, 1, (ci_ 28))]),
 oq_ 35 (.build [(.string ⟨#[]⟩), (.int .i64 0), (.int .i64 0), (.int .i64 0), (.int .i64 0), (.int .i64 0), (.string ⟨#[]⟩), (.int .i64 0)] [(1, 5, 34)]),
 oq_ 36 (.mkslice [(.string ⟨#[]⟩), (.int .i64 0), (.int .i64 0), (.int .i64 0), (.int .i64 0), (.int .i64 0), (.string ⟨#[]⟩), (.int .i64 0)] 1 [(0, 35)]),
 oq_ 37 (.app 8 80 33 36),
 oq_ 5 (mv_ 37)]
def x14_13 : C_ := .block 1 (r_ x14_12)
def x14_14 : L_ := [oq_ 31 (mv_ 6),
 oq_ 32 (.bin .add 31 (ci_ 1)),
 oq_ 6 (mv_ 32)]
def x14_15 : C_ := .seq x14_13 (r_ x14_14)
def x14_16 : C_ := .seq x14_11 x14_15
def x14_17 : C_ := .loop x14_16
def x14_18 : C_ := .block 0 x14_17
def x14_19 : C_ := .seq (r_ x14_8) x14_18
def x14_20 : L_ := [oq_ 39 (mv_ 5),
 oq_ 40 (.build [(.string ⟨#[]⟩), (.int .i64 0), (.int .i64 0), (.int .i64 0), (.int .i64 0), (.int .i64 0), (.string ⟨#[]⟩), (.int .i64 0)] [(0, 1, (.const (.string ⟨#[120]⟩)))]),
 oq_ 41 (.mkslice [(.string ⟨#[]⟩), (.int .i64 0), (.int .i64 0), (.int .i64 0), (.int .i64 0), (.int .i64 0), (.string ⟨#[]⟩), (.int .i64 0)] 1 [(0, 40)]),
 oq_ 42 (.app 8 80 39 41),
 oq_ 43 (mv_ 0),
 oc_ 44 17 [42, 43],
 oq_ 38 (mv_ 44),
 oq_ 45 (.ext 38 0),
 oq_ 46 (.ext 38 1),
 oq_ 47 (.ext 38 2),
 oq_ 7 (mv_ 45),
 oq_ 8 (mv_ 46),
 oq_ 9 (mv_ 47)]
def x14_21 : L_ := [oq_ 48 (mv_ 9),
 oq_ 49 (.bin .neq 48 (ci_ 0)),
 oq_ 50 (mv_ 49),
 og_ 51 50 false (mv_ 8),
 og_ 52 50 false (.lookup 9 3 .string (.int .i64 0) false 51 (.const (.string ⟨#[120]⟩))),
 og_ 53 50 false (mv_ 0),
 og_ 54 50 false (.bin .add 53 (ci_ 8)),
 og_ 55 50 false (mv_ 1),
 og_ 56 50 false (.bin .mul (ci_ 4) 55),
 og_ 57 50 false (.bin .add 54 56),
 og_ 58 50 false (.bin .neq 52 57),
 ⟨(some 59), .pick 50 (.const (.bool true)) 58, none⟩]
def x14_22 : L_ := [oq_ 4 (.mv (.const (.bool false)))]
def x14_23 : C_ := .seq (r_ x14_22) .ret
def x14_24 : C_ := .cnd 59 x14_23 .skip
def x14_25 : C_ := .seq (r_ x14_21) x14_24
def x14_26 : L_ := [oq_ 61 (mv_ 7),
 oc_ 62 38 [61],
 oq_ 63 (mv_ 7),
 oq_ 64 (.lenS 63),
 oq_ 65 (.bin .mul (ci_ 4) 64),
 oc_ 66 22 [62, 65],
 oq_ 60 (mv_ 66),
 oq_ 67 (.ext 60 0),
 oq_ 68 (.ext 60 1),
 oq_ 10 (mv_ 67),
 oq_ 11 (mv_ 68)]
def x14_27 : L_ := [oq_ 69 (mv_ 11),
 oq_ 70 (.bin .neq 69 (ci_ 0)),
 oq_ 71 (mv_ 70),
 og_ 72 71 false (mv_ 10),
 og_ 73 71 false (.eqnil 0 false 72 (.const (.pointer none))),
 ⟨(some 74), .pick 71 (.const (.bool true)) 73, none⟩]
def x14_28 : L_ := [oq_ 4 (.mv (.const (.bool false)))]
def x14_29 : C_ := .seq (r_ x14_28) .ret
def x14_30 : C_ := .cnd 74 x14_29 .skip
def x14_31 : C_ := .seq (r_ x14_27) x14_30
def x14_32 : L_ := [oq_ 75 (mv_ 10),
 oc_ 76 24 [75, (.const (.slice none 0 0)), (ci_ 2)],
 oq_ 77 (.field (.int .i64) 4 1 76),
 oq_ 78 (.bin .eql 77 (ci_ 2)),
 oq_ 79 (mv_ 78),
 og_ 80 79 true (mv_ 10),
 ⟨(some 81), .callF 25 [80, (ci_ 5)], (some (79, true))⟩,
 og_ 82 79 true (mv_ 8),
 og_ 83 79 true (.lookup 9 3 .string (.int .i64 0) false 82 (.const (.string ⟨#[120]⟩))),
 og_ 84 79 true (.conv .u64 83),
 og_ 85 79 true (.bin .eql 81 84),
 ⟨(some 86), .pick 79 85 (.const (.bool false)), none⟩,
 oq_ 4 (mv_ 86)]
def x14_33 : C_ := .seq (.draw x14_32 [[], [0], [0, 1], [0, 1, 2], [0, 1, 2, 3], [0, 1, 2, 3, 4], [0, 1, 2, 3, 4, 5], [0, 1, 2, 3, 4], [0, 1, 2, 3, 4, 7], [0, 1, 2, 3, 4, 7, 8], [0, 1, 2, 3, 4, 5, 6, 7, 8, 9], [0, 1, 2, 3, 4, 5, 6, 7, 8, 9, 10], [0, 1, 2, 3, 4, 5, 6, 7, 8, 9, 10, 11]]) .ret
def x14_34 : C_ := .seq x14_31 x14_33
def x14_35 : C_ := .seq (r_ x14_26) x14_34
def x14_36 : C_ := .seq x14_25 x14_35
def x14_37 : C_ := .seq (r_ x14_20) x14_36
def x14_38 : C_ := .seq x14_19 x14_37
def x14_39 : C_ := .seq (r_ x14_7) x14_38
def x14_40 : C_ := .seq (r_ x14_6) x14_39
def x14_41 : C_ := .seq x14_5 x14_40
def x14_42 : C_ := .seq (r_ x14_0) x14_41
def x14 : C_ := x14_42
theorem fx14 : fnx Try.prog 14 = some (87, [(4, none)], x14) := by kernel_rfl
def x16_0 : L_ := [oq_ 0 (.mv (.const (.bool false)))]
def x16_1 : L_ := [oq_ 5 (.build [(.string ⟨#[]⟩), (.int .i64 0), (.int .i64 0), (.int .i64 0), (.int .i64 0), (.int .i64 0), (.string ⟨#[]⟩), (.int .i64 0)] [(0, 1, (.const (.string ⟨#[120]⟩)))]),
 oq_ 6 (.build (zs_ .i64 5) [(0, 1, (ci_ 53))]),
 oq_ 7 (.build [(.string ⟨#[]⟩), (.int .i64 0), (.int .i64 0), (.int .i64 0), (.int .i64 0), (.int .i64 0), (.string ⟨#[]⟩), (.int .i64 0)] [(1, 5, 6), (6, 1, (.const (.string ⟨#[120]⟩)))]),
 oq_ 8 (.mkslice [(.string ⟨#[]⟩), (.int .i64 0), (.int .i64 0), (.int .i64 0), (.int .i64 0), (.int .i64 0), (.string ⟨#[]⟩), (.int .i64 0)] 2 [(0, 5), (1, 7)]),
 oc_ 9 17 [8, (ci_ 8)],
 oq_ 4 (mv_ 9),
 oq_ 10 (.ext 4 0),
 oq_ 11 (.ext 4 1),
 oq_ 12 (.ext 4 2),
 oq_ 1 (mv_ 10),
 oq_ 2 (mv_ 11),
 oq_ 3 (mv_ 12)]
def x16_2 : L_ := [oq_ 13 (mv_ 3),
 oq_ 14 (.bin .eql 13 (ci_ 0)),
 oq_ 15 (mv_ 14),
 og_ 16 15 true (mv_ 1),
 og_ 17 15 true (.lenS 16),
 og_ 18 15 true (.bin .eql 17 (ci_ 1)),
 ⟨(some 19), .pick 15 18 (.const (.bool false)), none⟩,
 oq_ 20 (mv_ 19),
 og_ 21 20 true (mv_ 1),
 og_ 22 20 true (.iaddrS 1 21 (ci_ 0)),
 og_ 23 20 true (.load (.int .u32) 1 22),
 og_ 24 20 true (.bin .eql 23 (.const (.int .u32 111))),
 ⟨(some 25), .pick 20 24 (.const (.bool false)), none⟩,
 oq_ 26 (mv_ 25),
 og_ 27 26 true (mv_ 2),
 og_ 28 26 true (.lookup 9 3 .string (.int .i64 0) false 27 (.const (.string ⟨#[120]⟩))),
 og_ 29 26 true (.bin .eql 28 (ci_ 8)),
 ⟨(some 30), .pick 26 29 (.const (.bool false)), none⟩,
 oq_ 0 (mv_ 30)]
def x16_3 : C_ := .seq (r_ x16_2) .ret
def x16_4 : C_ := .seq (r_ x16_1) x16_3
def x16_5 : C_ := .seq (r_ x16_0) x16_4
def x16 : C_ := x16_5
theorem fx16 : fnx Try.prog 16 = some (31, [(0, none)], x16) := by kernel_rfl
def x17_0 : L_ := [oq_ 4 (.mv (.const (.slice none 0 0))),
 oq_ 5 (.mv (.const (.map none))),
 oq_ 6 (.mv (ci_ 0))]
def x17_1 : L_ := [oq_ 16 (mv_ 0),
 oq_ 17 (mv_ 0),
 oq_ 18 (.lenS 17),
 oq_ 19 (.mks [(.bool false)] 1 18 18),
 oq_ 20 (mv_ 1),
 oq_ 21 (.mkmap 9 3 (.int .i64 0)),
 oq_ 22 (mv_ 0),
 oq_ 23 (.lenS 22),
 oq_ 24 (.mks [(.int .i64 0)] 8 23 23),
 oq_ 25 (.build [(.slice none 0 0), (.slice none 0 0), (.int .i64 0), (.map none), (.slice none 0 0)] [(0, 1, 16), (1, 1, 19), (2, 1, 20), (3, 1, 21), (4, 1, 24)]),
 oq_ 26 (.box 25),
 oq_ 7 (mv_ 26)]
def x17_2 : L_ := [oq_ 27 (mv_ 7),
 oc_ 28 39 [27],
 oq_ 8 (mv_ 28)]
def x17_3 : L_ := [oq_ 29 (mv_ 8),
 oq_ 30 (.bin .neq 29 (ci_ 0))]
def x17_4 : L_ := [oq_ 31 (mv_ 8),
 oq_ 4 (.mv (.const (.slice none 0 0))),
 oq_ 5 (.mv (.const (.map none))),
 oq_ 6 (mv_ 31)]
def x17_5 : C_ := .seq (r_ x17_4) .ret
def x17_6 : C_ := .cnd 30 x17_5 .skip
def x17_7 : C_ := .seq (r_ x17_3) x17_6
def x17_8 : C_ := .seq (r_ x17_2) x17_7
def x17_9 : L_ := [oq_ 32 (mv_ 7),
 oc_ 33 40 [32]]
def x17_10 : L_ := [oq_ 34 (mv_ 7),
 oc_ 35 41 [34]]
def x17_11 : C_ := .cnd 35 .skip (.exit 0)
def x17_12 : C_ := .seq (r_ x17_10) x17_11
def x17_13 : L_ := [oq_ 36 (mv_ 7),
 oc_ 37 40 [36]]
def x17_14 : C_ := .block 1 (r_ x17_13)
def x17_15 : C_ := .seq x17_12 x17_14
def x17_16 : C_ := .loop x17_15
def x17_17 : C_ := .block 0 x17_16
def x17_18 : L_ := [oq_ 9 (.mv (.const (.slice none 0 0)))]
def x17_19 : L_ := [oq_ 38 (mv_ 0),
 oq_ 39 (.lenS 38),
 oq_ 40 (.mv (ci_ 0))]
def x17_20 : L_ := [oq_ 41 (.bin .lss 40 39)]
def x17_21 : C_ := .cnd 41 .skip (.exit 2)
def x17_22 : L_ := [oq_ 42 (mv_ 40),
 oq_ 43 (.iaddrS 8 38 40),
 oq_ 44 (.load .agg 8 43),
 oq_ 11 (.new [(.string ⟨#[]⟩), (.int .i64 0), (.int .i64 0), (.int .i64 0), (.int .i64 0), (.int .i64 0), (.string ⟨#[]⟩), (.int .i64 0)]),
 oq_ 10 (mv_ 42),
 on_ (.store 8 11 44)]
def x17_23 : L_ := [oq_ 45 (.faddr 0 11),
 oq_ 46 (.load .str 1 45),
 oq_ 47 (.bin .neq 46 (.const (.string ⟨#[]⟩)))]
def x17_24 : C_ := .cnd 47 (.exit 3) .skip
def x17_25 : C_ := .seq (r_ x17_23) x17_24
def x17_26 : L_ := [oq_ 48 (mv_ 7),
 oq_ 49 (mv_ 10),
 oc_ 50 42 [48, 49],
 oq_ 51 (.lenS 50),
 oq_ 52 (.mv (ci_ 0))]
def x17_27 : L_ := [oq_ 53 (.bin .lss 52 51)]
def x17_28 : C_ := .cnd 53 .skip (.exit 4)
def x17_29 : L_ := [oq_ 54 (.iaddrS 5 50 52),
 oq_ 55 (.load .agg 5 54),
 oq_ 13 (.new (zs_ .i64 5)),
 on_ (.store 5 13 55)]
def x17_30 : L_ := [oq_ 57 (.load .agg 5 13),
 oc_ 58 18 [57],
 oq_ 56 (mv_ 58),
 oq_ 59 (.ext 56 0),
 oq_ 60 (.ext 56 1),
 oq_ 14 (mv_ 59),
 oq_ 15 (mv_ 60)]
def x17_31 : L_ := [oq_ 61 (mv_ 15),
 oq_ 62 (.bin .neq 61 (ci_ 0))]
def x17_32 : L_ := [oq_ 4 (.mv (.const (.slice none 0 0))),
 oq_ 5 (.mv (.const (.map none))),
 oq_ 6 (.mv (ci_ 16))]
def x17_33 : C_ := .seq (r_ x17_32) .ret
def x17_34 : C_ := .cnd 62 x17_33 .skip
def x17_35 : C_ := .seq (r_ x17_31) x17_34
def x17_36 : L_ := [oq_ 63 (mv_ 9),
 oq_ 64 (mv_ 14),
 oq_ 65 (.mkslice [(.int .u32 0)] 1 [(0, 64)]),
 oq_ 66 (.app 1 4 63 65),
 oq_ 9 (mv_ 66)]
def x17_37 : C_ := .seq x17_35 (r_ x17_36)
def x17_38 : C_ := .seq (r_ x17_30) x17_37
def x17_39 : C_ := .seq (r_ x17_29) x17_38
def x17_40 : C_ := .block 5 x17_39
def x17_41 : L_ := [oq_ 67 (.bin .add 52 (ci_ 1)),
 oq_ 52 (mv_ 67)]
def x17_42 : C_ := .seq x17_40 (r_ x17_41)
def x17_43 : C_ := .seq x17_28 x17_42
def x17_44 : C_ := .seq (r_ x17_27) x17_43
def x17_45 : C_ := .loop x17_44
def x17_46 : C_ := .block 4 x17_45
def x17_47 : C_ := .seq (r_ x17_26) x17_46
def x17_48 : C_ := .seq x17_25 x17_47
def x17_49 : C_ := .seq (r_ x17_22) x17_48
def x17_50 : C_ := .block 3 x17_49
def x17_51 : L_ := [oq_ 68 (.bin .add 40 (ci_ 1)),
 oq_ 40 (mv_ 68)]
def x17_52 : C_ := .seq x17_50 (r_ x17_51)
def x17_53 : C_ := .seq x17_21 x17_52
def x17_54 : C_ := .seq (r_ x17_20) x17_53
def x17_55 : C_ := .loop x17_54
def x17_56 : C_ := .block 2 x17_55
def x17_57 : C_ := .seq (r_ x17_19) x17_56
def x17_58 : L_ := [oq_ 69 (mv_ 9),
 oq_ 70 (.lenS 69),
 oq_ 71 (.bin .gtr 70 (ci_ 65536))]
def x17_59 : L_ := [oq_ 4 (.mv (.const (.slice none 0 0))),
 oq_ 5 (.mv (.const (.map none))),
 oq_ 6 (.mv (ci_ 3))]
def x17_60 : C_ := .seq (r_ x17_59) .ret
def x17_61 : C_ := .cnd 71 x17_60 .skip
def x17_62 : C_ := .seq (r_ x17_58) x17_61
def x17_63 : L_ := [oq_ 72 (mv_ 9),
 oq_ 73 (mv_ 7),
 oq_ 74 (.nilck 73),
 oq_ 75 (.faddr 3 74),
 oq_ 76 (.load .one 1 75),
 oq_ 4 (mv_ 72),
 oq_ 5 (mv_ 76),
 oq_ 6 (.mv (ci_ 0))]
def x17_64 : C_ := .seq (.draw x17_63 [[], [], [1], [1, 2], [1, 2, 3], [0], [0, 1, 2, 3, 4, 5], [0, 1, 2, 3, 4, 5, 6]]) .ret
def x17_65 : C_ := .seq x17_62 x17_64
def x17_66 : C_ := .seq x17_57 x17_65
def x17_67 : C_ := .seq (r_ x17_18) x17_66
def x17_68 : C_ := .seq x17_17 x17_67
def x17_69 : C_ := .seq (r_ x17_9) x17_68
def x17_70 : C_ := .seq x17_8 x17_69
def x17_71 : C_ := .seq (.draw x17_1 [[], [], [1], [1, 2], [], [], [], [6], [6, 7], [0, 1, 2, 3, 4, 5, 6, 7, 8], [0, 1, 2, 3, 4, 5, 6, 7, 8, 9], [0, 1, 2, 3, 4, 5, 6, 7, 8, 9, 10]]) x17_70
def x17_72 : C_ := .seq (r_ x17_0) x17_71
def x17 : C_ := x17_72
theorem fx17 : fnx Try.prog 17 = some (77, [(4, none), (5, none), (6, none)], x17) := by kernel_rfl
def x18_0 : L_ := [oq_ 1 (.box 0),
 oq_ 2 (.mv (.const (.int .u32 0))),
 oq_ 3 (.mv (ci_ 0))]
def x18_1 : L_ := [oc_ 18 43 [],
 oq_ 19 (.faddr 0 1),
 oq_ 20 (.load (.int .i64) 1 19),
 oq_ 21 (.lookup 3 104 (.int .i64) (.agg #[(.int .u8 0), (.int .u32 0), (.int .u32 0), (.int .u32 0)]) true 18 20),
 oq_ 17 (mv_ 21),
 oq_ 22 (.ext 17 0),
 oq_ 23 (.ext 17 1),
 oq_ 4 (.new [(.int .u8 0), (.int .u32 0), (.int .u32 0), (.int .u32 0)]),
 on_ (.store 4 4 22),
 oq_ 5 (mv_ 23)]
def x18_2 : L_ := [oq_ 25 (.faddr 0 4),
 oq_ 26 (.load (.int .u8) 1 25),
 oc_ 27 44 [26],
 oq_ 24 (mv_ 27),
 oq_ 28 (.ext 24 0),
 oq_ 29 (.ext 24 1),
 oq_ 6 (mv_ 28),
 oq_ 7 (mv_ 29)]
def x18_3 : L_ := [oq_ 30 (.faddr 1 1),
 oq_ 31 (.load (.int .i64) 1 30),
 oq_ 32 (.faddr 2 1),
 oq_ 33 (.load (.int .i64) 1 32),
 oq_ 34 (.faddr 3 1),
 oq_ 35 (.load (.int .i64) 1 34),
 oq_ 36 (.build (zs_ .i64 3) [(0, 1, 31), (1, 1, 33), (2, 1, 35)]),
 oq_ 8 (.new (zs_ .i64 3)),
 on_ (.store 3 8 36)]
def x18_4 : L_ := [oq_ 37 (.faddr 0 4),
 oq_ 38 (.load (.int .u8) 1 37),
 oc_ 39 45 [38],
 oq_ 40 (.mv (ci_ 0))]
def x18_5 : L_ := [oq_ 41 (.bin .lss 40 (ci_ 3))]
def x18_6 : C_ := .cnd 41 .skip (.exit 0)
def x18_7 : L_ := [oq_ 42 (mv_ 40),
 oq_ 43 (.idxA 3 1 .bool 39 40),
 oq_ 9 (mv_ 42),
 oq_ 10 (mv_ 43)]
def x18_8 : L_ := [oq_ 44 (mv_ 5),
 oq_ 45 (mv_ 44),
 og_ 46 45 true (mv_ 10),
 og_ 47 45 true (mv_ 46),
 og_ 48 47 false (mv_ 9),
 og_ 49 47 false (.iaddrA true 3 1 8 48),
 og_ 50 47 false (.load (.int .i64) 1 49),
 og_ 51 47 false (.bin .eql 50 (ci_ 0)),
 ⟨(some 52), .pick 47 (.const (.bool true)) 51, (some (45, true))⟩,
 ⟨(some 53), .pick 45 52 (.const (.bool false)), none⟩,
 oq_ 5 (mv_ 53)]
def x18_9 : C_ := .seq (r_ x18_7) (r_ x18_8)
def x18_10 : C_ := .block 1 x18_9
def x18_11 : L_ := [oq_ 54 (.bin .add 40 (ci_ 1)),
 oq_ 40 (mv_ 54)]
def x18_12 : C_ := .seq x18_10 (r_ x18_11)
def x18_13 : C_ := .seq x18_6 x18_12
def x18_14 : C_ := .seq (r_ x18_5) x18_13
def x18_15 : C_ := .loop x18_14
def x18_16 : C_ := .block 0 x18_15
def x18_17 : C_ := .seq (r_ x18_4) x18_16
def x18_18 : L_ := [oq_ 55 (mv_ 5),
 oq_ 56 (.un .not 55),
 oq_ 57 (mv_ 56),
 og_ 58 57 false (mv_ 6),
 og_ 59 57 false (mv_ 7),
 og_ 60 57 false (.bin .gtr 58 59),
 og_ 61 57 false (mv_ 60),
 og_ 62 61 true (.faddr 4 1),
 og_ 63 61 true (.load (.int .i64) 1 62),
 og_ 64 61 true (.bin .neq 63 (ci_ 0)),
 ⟨(some 65), .pick 61 64 (.const (.bool false)), (some (57, false))⟩,
 ⟨(some 66), .pick 57 (.const (.bool true)) 65, none⟩]
def x18_19 : L_ := [oq_ 2 (.mv (.const (.int .u32 0))),
 oq_ 3 (.mv (ci_ 2))]
def x18_20 : C_ := .seq (r_ x18_19) .ret
def x18_21 : C_ := .cnd 66 x18_20 .skip
def x18_22 : C_ := .seq (r_ x18_18) x18_21
def x18_23 : L_ := [oq_ 67 (.faddr 1 4),
 oq_ 68 (.faddr 0 67),
 oq_ 69 (.load (.int .u32) 1 68),
 oq_ 70 (.faddr 1 4),
 oq_ 71 (.faddr 1 70),
 oq_ 72 (.load (.int .u32) 1 71),
 oq_ 73 (.bin .shl 72 (.const (.int .u64 12))),
 oq_ 74 (.bin .or 69 73),
 oq_ 75 (.faddr 1 4),
 oq_ 76 (.faddr 2 75),
 oq_ 77 (.load (.int .u32) 1 76),
 oq_ 78 (.bin .shl 77 (.const (.int .u64 25))),
 oq_ 79 (.bin .or 74 78),
 oq_ 11 (mv_ 79)]
def x18_24 : L_ := [oq_ 80 (.load .agg 3 8),
 oq_ 81 (.mv (ci_ 0))]
def x18_25 : L_ := [oq_ 82 (.bin .lss 81 (ci_ 3))]
def x18_26 : C_ := .cnd 82 .skip (.exit 2)
def x18_27 : L_ := [oq_ 83 (mv_ 81),
 oq_ 84 (.idxA 3 1 (.int .i64) 80 81),
 oq_ 12 (mv_ 83),
 oq_ 13 (mv_ 84)]
def x18_28 : L_ := [oq_ 85 (mv_ 13),
 oq_ 86 (.bin .lss 85 (ci_ 0)),
 oq_ 87 (mv_ 86),
 og_ 88 87 false (mv_ 13),
 og_ 89 87 false (.bin .gtr 88 (ci_ 31)),
 ⟨(some 90), .pick 87 (.const (.bool true)) 89, none⟩]
def x18_29 : L_ := [oq_ 2 (.mv (.const (.int .u32 0))),
 oq_ 3 (.mv (ci_ 1))]
def x18_30 : C_ := .seq (r_ x18_29) .ret
def x18_31 : C_ := .cnd 90 x18_30 .skip
def x18_32 : C_ := .seq (r_ x18_28) x18_31
def x18_33 : L_ := [oq_ 91 (mv_ 11),
 oq_ 92 (mv_ 13),
 oq_ 93 (.conv .u32 92),
 oq_ 94 (.build (zs_ .u64 3) [(0, 1, (.const (.int .u64 7))), (1, 1, (.const (.int .u64 15))), (2, 1, (.const (.int .u64 20)))]),
 oq_ 95 (mv_ 12),
 oq_ 96 (.idxA 3 1 (.int .u64) 94 95),
 oq_ 97 (.bin .shl 93 96),
 oq_ 98 (.bin .or 91 97),
 oq_ 11 (mv_ 98)]
def x18_34 : C_ := .seq x18_32 (r_ x18_33)
def x18_35 : C_ := .seq (r_ x18_27) x18_34
def x18_36 : C_ := .block 3 x18_35
def x18_37 : L_ := [oq_ 99 (.bin .add 81 (ci_ 1)),
 oq_ 81 (mv_ 99)]
def x18_38 : C_ := .seq x18_36 (r_ x18_37)
def x18_39 : C_ := .seq x18_26 x18_38
def x18_40 : C_ := .seq (r_ x18_25) x18_39
def x18_41 : C_ := .loop x18_40
def x18_42 : C_ := .block 2 x18_41
def x18_43 : C_ := .seq (r_ x18_24) x18_42
def x18_44 : L_ := [oq_ 100 (.faddr 0 4),
 oq_ 101 (.load (.int .u8) 1 100),
 oq_ 102 (.bin .eql 101 (.const (.int .u8 66))),
 oq_ 103 (mv_ 102),
 og_ 104 103 false (.faddr 0 4),
 og_ 105 103 false (.load (.int .u8) 1 104),
 og_ 106 103 false (.bin .eql 105 (.const (.int .u8 74))),
 ⟨(some 107), .pick 103 (.const (.bool true)) 106, none⟩,
 oq_ 108 (mv_ 107),
 og_ 109 108 true (.faddr 4 1),
 og_ 110 108 true (.load (.int .i64) 1 109),
 og_ 111 108 true (.bin .and 110 (ci_ 1)),
 og_ 112 108 true (.bin .eql 111 (ci_ 1)),
 ⟨(some 113), .pick 108 112 (.const (.bool false)), none⟩,
 oq_ 14 (mv_ 113)]
def x18_45 : L_ := [oq_ 114 (mv_ 6),
 oq_ 115 (mv_ 7),
 oq_ 116 (.bin .leq 114 115),
 oq_ 117 (mv_ 116),
 og_ 118 117 true (.faddr 4 1),
 og_ 119 117 true (.load (.int .i64) 1 118),
 og_ 120 117 true (mv_ 6),
 og_ 121 117 true (.bin .lss 119 120),
 og_ 122 117 true (mv_ 121),
 og_ 123 122 false (.faddr 4 1),
 og_ 124 122 false (.load (.int .i64) 1 123),
 og_ 125 122 false (mv_ 7),
 og_ 126 122 false (.bin .gtr 124 125),
 ⟨(some 127), .pick 122 (.const (.bool true)) 126, (some (117, true))⟩,
 og_ 128 117 true (mv_ 127),
 og_ 129 128 false (mv_ 14),
 ⟨(some 130), .pick 128 (.const (.bool true)) 129, (some (117, true))⟩,
 ⟨(some 131), .pick 117 130 (.const (.bool false)), none⟩]
def x18_46 : L_ := [oq_ 2 (.mv (.const (.int .u32 0))),
 oq_ 3 (.mv (ci_ 1))]
def x18_47 : C_ := .seq (r_ x18_46) .ret
def x18_48 : C_ := .cnd 131 x18_47 .skip
def x18_49 : C_ := .seq (r_ x18_45) x18_48
def x18_50 : L_ := [oq_ 132 (.faddr 0 4),
 oq_ 133 (.load (.int .u8) 1 132),
 oc_ 134 46 [133],
 oq_ 135 (.lenS 134),
 oq_ 136 (.mv (ci_ 0))]
def x18_51 : L_ := [oq_ 137 (.bin .lss 136 135)]
def x18_52 : C_ := .cnd 137 .skip (.exit 4)
def x18_53 : L_ := [oq_ 138 (.iaddrS 3 134 136),
 oq_ 139 (.load .agg 3 138),
 oq_ 16 (.new (zs_ .u64 3)),
 on_ (.store 3 16 139)]
def x18_54 : L_ := [oq_ 140 (mv_ 11),
 oq_ 141 (.faddr 4 1),
 oq_ 142 (.load (.int .i64) 1 141),
 oq_ 143 (.conv .u32 142),
 oq_ 144 (.faddr 0 16),
 oq_ 145 (.load (.int .u64) 1 144),
 oq_ 146 (.bin .shr 143 145),
 oq_ 147 (.faddr 1 16),
 oq_ 148 (.load (.int .u64) 1 147),
 oq_ 149 (.bin .shl (.const (.int .u32 1)) 148),
 oq_ 150 (.bin .sub 149 (.const (.int .u32 1))),
 oq_ 151 (.bin .and 146 150),
 oq_ 152 (.faddr 2 16),
 oq_ 153 (.load (.int .u64) 1 152),
 oq_ 154 (.bin .shl 151 153),
 oq_ 155 (.bin .or 140 154),
 oq_ 11 (mv_ 155)]
def x18_55 : C_ := .seq (r_ x18_53) (r_ x18_54)
def x18_56 : C_ := .block 5 x18_55
def x18_57 : L_ := [oq_ 156 (.bin .add 136 (ci_ 1)),
 oq_ 136 (mv_ 156)]
def x18_58 : C_ := .seq x18_56 (r_ x18_57)
def x18_59 : C_ := .seq x18_52 x18_58
def x18_60 : C_ := .seq (r_ x18_51) x18_59
def x18_61 : C_ := .loop x18_60
def x18_62 : C_ := .block 4 x18_61
def x18_63 : C_ := .seq (r_ x18_50) x18_62
def x18_64 : L_ := [oq_ 157 (mv_ 11),
 oq_ 2 (mv_ 157),
 oq_ 3 (.mv (ci_ 0))]
def x18_65 : C_ := .seq (r_ x18_64) .ret
def x18_66 : C_ := .seq x18_63 x18_65
def x18_67 : C_ := .seq x18_49 x18_66
def x18_68 : C_ := .seq (r_ x18_44) x18_67
def x18_69 : C_ := .seq x18_43 x18_68
def x18_70 : C_ := .seq (r_ x18_23) x18_69
def x18_71 : C_ := .seq x18_22 x18_70
def x18_72 : C_ := .seq x18_17 x18_71
def x18_73 : C_ := .seq (r_ x18_3) x18_72
def x18_74 : C_ := .seq (r_ x18_2) x18_73
def x18_75 : C_ := .seq (.draw x18_1 [[], [], [1], [0, 1, 2], [0, 1, 2, 3], [0, 1, 2, 3, 4], [0, 1, 2, 3, 4], [], [0, 1, 2, 3, 4, 5, 7], [0, 1, 2, 3, 4, 5, 6, 7, 8]]) x18_74
def x18_76 : C_ := .seq (r_ x18_0) x18_75
def x18 : C_ := x18_76
theorem fx18 : fnx Try.prog 18 = some (158, [(2, none), (3, none)], x18) := by kernel_rfl
def x22_0 : L_ := [oq_ 4 (.mv (.const (.pointer none))),
 oq_ 5 (.mv (ci_ 0))]
def x22_1 : L_ := [oq_ 7 (mv_ 1),
 oq_ 8 (mv_ 0),
 oq_ 9 (.lenS 8),
 oq_ 10 (.bin .lss 7 9),
 oq_ 11 (mv_ 10),
 og_ 12 11 false (mv_ 1),
 og_ 13 11 false (.bin .gtr 12 (ci_ 4194304)),
 ⟨(some 14), .pick 11 (.const (.bool true)) 13, none⟩]
def x22_2 : L_ := [oq_ 4 (.mv (.const (.pointer none))),
 oq_ 5 (.mv (ci_ 1))]
def x22_3 : C_ := .seq (r_ x22_2) .ret
def x22_4 : C_ := .cnd 14 x22_3 .skip
def x22_5 : C_ := .seq (r_ x22_1) x22_4
def x22_6 : L_ := [oq_ 15 (mv_ 1),
 oq_ 16 (.mks [(.int .u8 0)] 1 15 15),
 oq_ 17 (.mkmap 35 26 (.agg #[(.int .i64 0), (.int .i64 0), (.int .i64 0), (.int .i64 0), (.int .i64 0)])),
 oq_ 18 (.build [(.slice none 0 0), (.int .u64 0), (.int .u64 0), (.int .u64 0), (.int .u64 0), (.int .u64 0), (.int .u64 0), (.int .u64 0), (.int .u64 0), (.int .u64 0), (.int .u64 0), (.int .u64 0), (.int .u64 0), (.int .u64 0), (.int .u64 0), (.int .u64 0), (.int .u64 0), (.int .u64 0), (.int .u64 0), (.int .u64 0), (.int .u64 0), (.int .u64 0), (.int .u64 0), (.int .u64 0), (.int .u64 0), (.int .u64 0), (.int .u64 0), (.int .u64 0), (.int .u64 0), (.int .u64 0), (.int .u64 0), (.int .u64 0), (.int .u64 0), (.int .u64 0), (.int .i64 0), (.int .u8 0), (.map none)] [(0, 1, 16), (36, 1, 17)]),
 oq_ 19 (.box 18),
 oq_ 6 (mv_ 19)]
def x22_7 : L_ := [oq_ 20 (mv_ 6),
 oq_ 21 (.nilck 20),
 oq_ 22 (.faddr 0 21),
 oq_ 23 (.load .one 1 22),
 oq_ 24 (mv_ 0),
 oq_ 25 (.cpy 1 23 24)]
def x22_8 : L_ := [oq_ 26 (mv_ 6),
 oq_ 4 (mv_ 26),
 oq_ 5 (.mv (ci_ 0))]
def x22_9 : C_ := .seq (r_ x22_8) .ret
def x22_10 : C_ := .seq (r_ x22_7) x22_9
def x22_11 : C_ := .seq (r_ x22_6) x22_10
def x22_12 : C_ := .seq x22_5 x22_11
def x22_13 : C_ := .seq (r_ x22_0) x22_12
def x22 : C_ := x22_13
theorem fx22 : fnx Try.prog 22 = some (27, [(4, none), (5, none)], x22) := by kernel_rfl
def x24_0 : L_ := [oq_ 6 (.new [(.int .i64 0), (.int .u8 0), (.int .i64 0), (.slice none 0 0), (.int .i64 0), (.int .i64 0)])]
def x24_1 : L_ := [oq_ 10 (mv_ 0),
 oq_ 11 (mv_ 1),
 oq_ 12 (mv_ 2),
 oc_ 13 48 [10, 11, 12, (.const (.bool false))],
 oq_ 9 (mv_ 13),
 oq_ 14 (.ext 9 0),
 oq_ 15 (.ext 9 1),
 oq_ 7 (.new [(.int .i64 0), (.int .u8 0), (.int .i64 0), (.slice none 0 0), (.int .i64 0), (.int .i64 0)]),
 on_ (.store 6 7 14),
 oq_ 8 (mv_ 15)]
def x24_2 : L_ := [oq_ 16 (.load .agg 6 7),
 on_ (.store 6 6 16)]
def x24_3 : C_ := .seq (r_ x24_2) .ret
def x24_4 : C_ := .seq (r_ x24_1) x24_3
def x24_5 : C_ := .seq (r_ x24_0) x24_4
def x24 : C_ := x24_5
theorem fx24 : fnx Try.prog 24 = some (17, [(6, (some (.agg, 6)))], x24) := by kernel_rfl
def x25_0 : L_ := [oq_ 4 (.mv (.const (.int .u64 0)))]
def x25_1 : L_ := [oq_ 5 (mv_ 1),
 oq_ 6 (.bin .lss 5 (ci_ 0)),
 oq_ 7 (mv_ 6),
 og_ 8 7 false (mv_ 1),
 og_ 9 7 false (.bin .gtr 8 (ci_ 31)),
 ⟨(some 10), .pick 7 (.const (.bool true)) 9, none⟩]
def x25_2 : L_ := [oq_ 4 (.mv (.const (.int .u64 0)))]
def x25_3 : C_ := .seq (r_ x25_2) .ret
def x25_4 : C_ := .cnd 10 x25_3 .skip
def x25_5 : C_ := .seq (r_ x25_1) x25_4
def x25_6 : L_ := [oq_ 11 (mv_ 0),
 oq_ 12 (mv_ 1),
 oq_ 13 (.nilck 11),
 oq_ 14 (.faddr 1 13),
 oq_ 15 (.iaddrA true 32 1 14 12),
 oq_ 16 (.load (.int .u64) 1 15),
 oq_ 4 (mv_ 16)]
def x25_7 : C_ := .seq (r_ x25_6) .ret
def x25_8 : C_ := .seq x25_5 x25_7
def x25_9 : C_ := .seq (r_ x25_0) x25_8
def x25 : C_ := x25_9
theorem fx25 : fnx Try.prog 25 = some (17, [(4, none)], x25) := by kernel_rfl
def x36_0 : L_ := [oq_ 6 (.mv (.const (.int .u64 0))),
 oq_ 7 (.mv (ci_ 0))]
def x36_1 : L_ := [oq_ 9 (mv_ 1),
 oq_ 10 (.bin .lss 9 (ci_ 1)),
 oq_ 11 (mv_ 10),
 og_ 12 11 false (mv_ 1),
 og_ 13 11 false (.bin .gtr 12 (ci_ 64)),
 ⟨(some 14), .pick 11 (.const (.bool true)) 13, none⟩]
def x36_2 : L_ := [oq_ 6 (.mv (.const (.int .u64 0))),
 oq_ 7 (.mv (ci_ 1))]
def x36_3 : C_ := .seq (r_ x36_2) .ret
def x36_4 : C_ := .cnd 14 x36_3 .skip
def x36_5 : C_ := .seq (r_ x36_1) x36_4
def x36_6 : L_ := [oq_ 15 (mv_ 1),
 oq_ 16 (.bin .sub (ci_ 64) 15),
 oq_ 8 (mv_ 16)]
def x36_7 : L_ := [oq_ 17 (mv_ 2)]
def x36_8 : L_ := [oq_ 18 (mv_ 0),
 oq_ 19 (mv_ 8),
 oq_ 20 (.bin .shl 18 19),
 oq_ 21 (.conv .i64 20),
 oq_ 22 (mv_ 8),
 oq_ 23 (.bin .shr 21 22),
 oq_ 24 (.conv .u64 23),
 oq_ 6 (mv_ 24),
 oq_ 7 (.mv (ci_ 0))]
def x36_9 : C_ := .seq (r_ x36_8) .ret
def x36_10 : C_ := .cnd 17 x36_9 .skip
def x36_11 : C_ := .seq (r_ x36_7) x36_10
def x36_12 : L_ := [oq_ 25 (mv_ 0),
 oq_ 26 (mv_ 8),
 oq_ 27 (.bin .shl 25 26),
 oq_ 28 (mv_ 8),
 oq_ 29 (.bin .shr 27 28),
 oq_ 6 (mv_ 29),
 oq_ 7 (.mv (ci_ 0))]
def x36_13 : C_ := .seq (r_ x36_12) .ret
def x36_14 : C_ := .seq x36_11 x36_13
def x36_15 : C_ := .seq (r_ x36_6) x36_14
def x36_16 : C_ := .seq x36_5 x36_15
def x36_17 : C_ := .seq (r_ x36_0) x36_16
def x36 : C_ := x36_17
theorem fx36 : fnx Try.prog 36 = some (30, [(6, none), (7, none)], x36) := by kernel_rfl
def x38_0 : L_ := [oq_ 2 (.mv (.const (.slice none 0 0)))]
def x38_1 : L_ := [oq_ 3 (.mv (.const (.slice none 0 0)))]
def x38_2 : L_ := [oq_ 6 (mv_ 0),
 oq_ 7 (.lenS 6),
 oq_ 8 (.mv (ci_ 0))]
def x38_3 : L_ := [oq_ 9 (.bin .lss 8 7)]
def x38_4 : C_ := .cnd 9 .skip (.exit 0)
def x38_5 : L_ := [oq_ 10 (.iaddrS 1 6 8),
 oq_ 11 (.load (.int .u32) 1 10),
 oq_ 5 (mv_ 11)]
def x38_6 : L_ := [oq_ 12 (mv_ 3),
 oq_ 13 (mv_ 5),
 oq_ 14 (.conv .u8 13),
 oq_ 15 (mv_ 5),
 oq_ 16 (.bin .shr 15 (.const (.int .u64 8))),
 oq_ 17 (.conv .u8 16),
 oq_ 18 (mv_ 5),
 oq_ 19 (.bin .shr 18 (.const (.int .u64 16))),
 oq_ 20 (.conv .u8 19),
 oq_ 21 (mv_ 5),
 oq_ 22 (.bin .shr 21 (.const (.int .u64 24))),
 oq_ 23 (.conv .u8 22),
 oq_ 24 (.mkslice [(.int .u8 0)] 4 [(0, 14), (1, 17), (2, 20), (3, 23)]),
 oq_ 25 (.app 1 1 12 24),
 oq_ 3 (mv_ 25)]
def x38_7 : C_ := .seq (r_ x38_5) (r_ x38_6)
def x38_8 : C_ := .block 1 x38_7
def x38_9 : L_ := [oq_ 26 (.bin .add 8 (ci_ 1)),
 oq_ 8 (mv_ 26)]
def x38_10 : C_ := .seq x38_8 (r_ x38_9)
def x38_11 : C_ := .seq x38_4 x38_10
def x38_12 : C_ := .seq (r_ x38_3) x38_11
def x38_13 : C_ := .loop x38_12
def x38_14 : C_ := .block 0 x38_13
def x38_15 : C_ := .seq (r_ x38_2) x38_14
def x38_16 : L_ := [oq_ 27 (mv_ 3),
 oq_ 2 (mv_ 27)]
def x38_17 : C_ := .seq (r_ x38_16) .ret
def x38_18 : C_ := .seq x38_15 x38_17
def x38_19 : C_ := .seq (r_ x38_1) x38_18
def x38_20 : C_ := .seq (r_ x38_0) x38_19
def x38 : C_ := x38_20
theorem fx38 : fnx Try.prog 38 = some (28, [(2, none)], x38) := by kernel_rfl
def x39_0 : L_ := [oq_ 2 (.mv (ci_ 0))]
def x39_1 : L_ := [oq_ 13 (mv_ 0),
 oq_ 14 (.nilck 13),
 oq_ 15 (.faddr 2 14),
 oq_ 16 (.load (.int .i64) 1 15),
 oq_ 17 (.bin .rem 16 (ci_ 4)),
 oq_ 18 (.bin .neq 17 (ci_ 0)),
 oq_ 19 (mv_ 18),
 og_ 20 19 false (mv_ 0),
 og_ 21 19 false (.nilck 20),
 og_ 22 19 false (.faddr 2 21),
 og_ 23 19 false (.load (.int .i64) 1 22),
 og_ 24 19 false (.bin .lss 23 (ci_ 0)),
 ⟨(some 25), .pick 19 (.const (.bool true)) 24, none⟩,
 oq_ 26 (mv_ 25),
 og_ 27 26 false (mv_ 0),
 og_ 28 26 false (.nilck 27),
 og_ 29 26 false (.faddr 2 28),
 og_ 30 26 false (.load (.int .i64) 1 29),
 og_ 31 26 false (.bin .gtr 30 (ci_ 4194304)),
 ⟨(some 32), .pick 26 (.const (.bool true)) 31, none⟩]
def x39_2 : L_ := [oq_ 2 (.mv (ci_ 1))]
def x39_3 : C_ := .seq (r_ x39_2) .ret
def x39_4 : C_ := .cnd 32 x39_3 .skip
def x39_5 : C_ := .seq (r_ x39_1) x39_4
def x39_6 : L_ := [oq_ 33 (mv_ 0),
 oq_ 34 (.nilck 33),
 oq_ 35 (.faddr 0 34),
 oq_ 36 (.load .one 1 35),
 oq_ 37 (.lenS 36),
 oq_ 38 (.bin .gtr 37 (ci_ 65536))]
def x39_7 : L_ := [oq_ 2 (.mv (ci_ 3))]
def x39_8 : C_ := .seq (r_ x39_7) .ret
def x39_9 : C_ := .cnd 38 x39_8 .skip
def x39_10 : C_ := .seq (r_ x39_6) x39_9
def x39_11 : L_ := [oq_ 39 (mv_ 0),
 oq_ 40 (.nilck 39),
 oq_ 41 (.faddr 0 40),
 oq_ 42 (.load .one 1 41),
 oq_ 43 (.lenS 42),
 oq_ 44 (.mv (ci_ 0))]
def x39_12 : L_ := [oq_ 45 (.bin .lss 44 43)]
def x39_13 : C_ := .cnd 45 .skip (.exit 0)
def x39_14 : L_ := [oq_ 46 (.iaddrS 8 42 44),
 oq_ 47 (.load .agg 8 46),
 oq_ 4 (.new [(.string ⟨#[]⟩), (.int .i64 0), (.int .i64 0), (.int .i64 0), (.int .i64 0), (.int .i64 0), (.string ⟨#[]⟩), (.int .i64 0)]),
 on_ (.store 8 4 47)]
def x39_15 : L_ := [oq_ 48 (.load .agg 8 4),
 oc_ 49 51 [48],
 oq_ 50 (.un .not 49)]
def x39_16 : L_ := [oq_ 2 (.mv (ci_ 2))]
def x39_17 : C_ := .seq (r_ x39_16) .ret
def x39_18 : C_ := .cnd 50 x39_17 .skip
def x39_19 : C_ := .seq (r_ x39_15) x39_18
def x39_20 : C_ := .seq (r_ x39_14) x39_19
def x39_21 : C_ := .block 1 x39_20
def x39_22 : L_ := [oq_ 51 (.bin .add 44 (ci_ 1)),
 oq_ 44 (mv_ 51)]
def x39_23 : C_ := .seq x39_21 (r_ x39_22)
def x39_24 : C_ := .seq x39_13 x39_23
def x39_25 : C_ := .seq (r_ x39_12) x39_24
def x39_26 : C_ := .loop x39_25
def x39_27 : C_ := .block 0 x39_26
def x39_28 : C_ := .seq (r_ x39_11) x39_27
def x39_29 : L_ := [oq_ 52 (mv_ 0),
 oq_ 53 (.nilck 52),
 oq_ 54 (.faddr 0 53),
 oq_ 55 (.load .one 1 54),
 oq_ 56 (.lenS 55),
 oq_ 57 (.mv (ci_ 0))]
def x39_30 : L_ := [oq_ 58 (.bin .lss 57 56)]
def x39_31 : C_ := .cnd 58 .skip (.exit 2)
def x39_32 : L_ := [oq_ 59 (.iaddrS 8 55 57),
 oq_ 60 (.load .agg 8 59),
 oq_ 6 (.new [(.string ⟨#[]⟩), (.int .i64 0), (.int .i64 0), (.int .i64 0), (.int .i64 0), (.int .i64 0), (.string ⟨#[]⟩), (.int .i64 0)]),
 on_ (.store 8 6 60)]
def x39_33 : L_ := [oq_ 62 (mv_ 0),
 oq_ 63 (.nilck 62),
 oq_ 64 (.faddr 3 63),
 oq_ 65 (.load .one 1 64),
 oq_ 66 (.faddr 0 6),
 oq_ 67 (.load .str 1 66),
 oq_ 68 (.lookup 9 3 .string (.int .i64 0) true 65 67),
 oq_ 61 (mv_ 68),
 oq_ 69 (.ext 61 0),
 oq_ 70 (.ext 61 1),
 oq_ 7 (mv_ 69),
 oq_ 8 (mv_ 70)]
def x39_34 : L_ := [oq_ 71 (mv_ 8)]
def x39_35 : L_ := [oq_ 2 (.mv (ci_ 18))]
def x39_36 : C_ := .seq (r_ x39_35) .ret
def x39_37 : C_ := .cnd 71 x39_36 .skip
def x39_38 : C_ := .seq (r_ x39_34) x39_37
def x39_39 : C_ := .seq (.draw x39_33 [[], [0], [0, 1], [0, 1, 2], [], [4], [0, 1, 2, 3, 4, 5], [0, 1, 2, 3, 4, 5, 6], [0, 1, 2, 3, 4, 5, 6, 7], [0, 1, 2, 3, 4, 5, 6, 7], [0, 1, 2, 3, 4, 5, 6, 7, 8], [0, 1, 2, 3, 4, 5, 6, 7, 8, 9, 10]]) x39_38
def x39_40 : L_ := [oq_ 72 (.faddr 0 6),
 oq_ 73 (.load .str 1 72),
 oq_ 74 (.bin .neq 73 (.const (.string ⟨#[]⟩)))]
def x39_41 : L_ := [oq_ 75 (mv_ 0),
 oq_ 76 (.nilck 75),
 oq_ 77 (.faddr 3 76),
 oq_ 78 (.load .one 1 77),
 oq_ 79 (.faddr 0 6),
 oq_ 80 (.load .str 1 79),
 on_ (.mapupd 9 3 .string 78 80 (ci_ 0))]
def x39_42 : C_ := .cnd 74 (.draw x39_41 [[], [0], [0, 1], [0, 1, 2], [], [4], [0, 1, 2, 3, 4, 5]]) .skip
def x39_43 : C_ := .seq (r_ x39_40) x39_42
def x39_44 : C_ := .seq x39_39 x39_43
def x39_45 : C_ := .seq (r_ x39_32) x39_44
def x39_46 : C_ := .block 3 x39_45
def x39_47 : L_ := [oq_ 81 (.bin .add 57 (ci_ 1)),
 oq_ 57 (mv_ 81)]
def x39_48 : C_ := .seq x39_46 (r_ x39_47)
def x39_49 : C_ := .seq x39_31 x39_48
def x39_50 : C_ := .seq (r_ x39_30) x39_49
def x39_51 : C_ := .loop x39_50
def x39_52 : C_ := .block 2 x39_51
def x39_53 : C_ := .seq (r_ x39_29) x39_52
def x39_54 : L_ := [oq_ 82 (mv_ 0),
 oq_ 83 (.nilck 82),
 oq_ 84 (.faddr 0 83),
 oq_ 85 (.load .one 1 84),
 oq_ 86 (.lenS 85),
 oq_ 87 (.mv (ci_ 0))]
def x39_55 : L_ := [oq_ 88 (.bin .lss 87 86)]
def x39_56 : C_ := .cnd 88 .skip (.exit 4)
def x39_57 : L_ := [oq_ 89 (.iaddrS 8 85 87),
 oq_ 90 (.load .agg 8 89),
 oq_ 10 (.new [(.string ⟨#[]⟩), (.int .i64 0), (.int .i64 0), (.int .i64 0), (.int .i64 0), (.int .i64 0), (.string ⟨#[]⟩), (.int .i64 0)]),
 on_ (.store 8 10 90)]
def x39_58 : L_ := [oq_ 92 (mv_ 0),
 oq_ 93 (.nilck 92),
 oq_ 94 (.faddr 3 93),
 oq_ 95 (.load .one 1 94),
 oq_ 96 (.faddr 6 10),
 oq_ 97 (.load .str 1 96),
 oq_ 98 (.lookup 9 3 .string (.int .i64 0) true 95 97),
 oq_ 91 (mv_ 98),
 oq_ 99 (.ext 91 0),
 oq_ 100 (.ext 91 1),
 oq_ 11 (mv_ 99),
 oq_ 12 (mv_ 100)]
def x39_59 : L_ := [oq_ 101 (.faddr 6 10),
 oq_ 102 (.load .str 1 101),
 oq_ 103 (.bin .neq 102 (.const (.string ⟨#[]⟩))),
 oq_ 104 (mv_ 103),
 og_ 105 104 true (mv_ 12),
 og_ 106 104 true (.un .not 105),
 ⟨(some 107), .pick 104 106 (.const (.bool false)), none⟩]
def x39_60 : L_ := [oq_ 2 (.mv (ci_ 17))]
def x39_61 : C_ := .seq (r_ x39_60) .ret
def x39_62 : C_ := .cnd 107 x39_61 .skip
def x39_63 : C_ := .seq (r_ x39_59) x39_62
def x39_64 : C_ := .seq (.draw x39_58 [[], [0], [0, 1], [0, 1, 2], [], [4], [0, 1, 2, 3, 4, 5], [0, 1, 2, 3, 4, 5, 6], [0, 1, 2, 3, 4, 5, 6, 7], [0, 1, 2, 3, 4, 5, 6, 7], [0, 1, 2, 3, 4, 5, 6, 7, 8], [0, 1, 2, 3, 4, 5, 6, 7, 8, 9, 10]]) x39_63
def x39_65 : C_ := .seq (r_ x39_57) x39_64
def x39_66 : C_ := .block 5 x39_65
def x39_67 : L_ := [oq_ 108 (.bin .add 87 (ci_ 1)),
 oq_ 87 (mv_ 108)]
def x39_68 : C_ := .seq x39_66 (r_ x39_67)
def x39_69 : C_ := .seq x39_56 x39_68
def x39_70 : C_ := .seq (r_ x39_55) x39_69
def x39_71 : C_ := .loop x39_70
def x39_72 : C_ := .block 4 x39_71
def x39_73 : C_ := .seq (r_ x39_54) x39_72
def x39_74 : L_ := [oq_ 2 (.mv (ci_ 0))]
def x39_75 : C_ := .seq (r_ x39_74) .ret
def x39_76 : C_ := .seq x39_73 x39_75
def x39_77 : C_ := .seq x39_53 x39_76
def x39_78 : C_ := .seq x39_28 x39_77
def x39_79 : C_ := .seq x39_10 x39_78
def x39_80 : C_ := .seq x39_5 x39_79
def x39_81 : C_ := .seq (r_ x39_0) x39_80
def x39 : C_ := x39_81
theorem fx39 : fnx Try.prog 39 = some (109, [(2, none)], x39) := by kernel_rfl
def x40_0 : L_ := [oq_ 5 (mv_ 0),
 oq_ 6 (.nilck 5),
 oq_ 7 (.faddr 2 6),
 oq_ 8 (.load (.int .i64) 1 7),
 oq_ 2 (mv_ 8)]
def x40_1 : L_ := [oq_ 9 (mv_ 0),
 oq_ 10 (.nilck 9),
 oq_ 11 (.faddr 0 10),
 oq_ 12 (.load .one 1 11),
 oq_ 13 (.lenS 12),
 oq_ 14 (.mv (ci_ 0))]
def x40_2 : L_ := [oq_ 15 (.bin .lss 14 13)]
def x40_3 : C_ := .cnd 15 .skip (.exit 0)
def x40_4 : L_ := [oq_ 16 (mv_ 14),
 oq_ 17 (.iaddrS 8 12 14),
 oq_ 18 (.load .agg 8 17),
 oq_ 4 (.new [(.string ⟨#[]⟩), (.int .i64 0), (.int .i64 0), (.int .i64 0), (.int .i64 0), (.int .i64 0), (.string ⟨#[]⟩), (.int .i64 0)]),
 oq_ 3 (mv_ 16),
 on_ (.store 8 4 18)]
def x40_5 : L_ := [oq_ 19 (mv_ 0),
 oq_ 20 (.nilck 19),
 oq_ 21 (.faddr 4 20),
 oq_ 22 (.load .one 1 21),
 oq_ 23 (mv_ 3),
 oq_ 24 (mv_ 2),
 oq_ 25 (.iaddrS 1 22 23),
 on_ (.store 1 25 24)]
def x40_6 : L_ := [oq_ 29 (.faddr 0 4),
 oq_ 30 (.load .str 1 29),
 oq_ 31 (.bin .neq 30 (.const (.string ⟨#[]⟩))),
 oq_ 28 (mv_ 31)]
def x40_7 : L_ := [oq_ 32 (mv_ 0),
 oq_ 33 (.nilck 32),
 oq_ 34 (.faddr 3 33),
 oq_ 35 (.load .one 1 34),
 oq_ 36 (.faddr 0 4),
 oq_ 37 (.load .str 1 36),
 oq_ 38 (mv_ 2),
 on_ (.mapupd 9 3 .string 35 37 38)]
def x40_8 : L_ := [oq_ 40 (mv_ 0),
 oq_ 41 (.nilck 40),
 oq_ 42 (.faddr 1 41),
 oq_ 43 (.load .one 1 42),
 oq_ 44 (mv_ 3),
 oq_ 45 (.iaddrS 1 43 44),
 oq_ 46 (.load .bool 1 45),
 oq_ 39 (mv_ 46)]
def x40_9 : L_ := [oq_ 47 (mv_ 2),
 oq_ 48 (.bin .add 47 (ci_ 8)),
 oq_ 2 (mv_ 48)]
def x40_10 : L_ := [oq_ 26 (mv_ 2),
 oq_ 27 (.bin .add 26 (ci_ 4)),
 oq_ 2 (mv_ 27)]
def x40_11 : C_ := .cnd 39 (r_ x40_9) (r_ x40_10)
def x40_12 : C_ := .seq (r_ x40_8) x40_11
def x40_13 : C_ := .cnd 28 (.draw x40_7 [[], [0], [0, 1], [0, 1, 2], [], [4], [], [0, 1, 2, 3, 4, 5, 6]]) x40_12
def x40_14 : C_ := .seq (r_ x40_6) x40_13
def x40_15 : C_ := .block 2 x40_14
def x40_16 : C_ := .seq (r_ x40_5) x40_15
def x40_17 : C_ := .seq (r_ x40_4) x40_16
def x40_18 : C_ := .block 1 x40_17
def x40_19 : L_ := [oq_ 49 (.bin .add 14 (ci_ 1)),
 oq_ 14 (mv_ 49)]
def x40_20 : C_ := .seq x40_18 (r_ x40_19)
def x40_21 : C_ := .seq x40_3 x40_20
def x40_22 : C_ := .seq (r_ x40_2) x40_21
def x40_23 : C_ := .loop x40_22
def x40_24 : C_ := .block 0 x40_23
def x40_25 : C_ := .seq (r_ x40_1) x40_24
def x40_26 : C_ := .seq (r_ x40_0) x40_25
def x40 : C_ := x40_26
theorem fx40 : fnx Try.prog 40 = some (50, [], x40) := by kernel_rfl
def x41_0 : L_ := [oq_ 2 (.mv (.const (.bool false)))]
def x41_1 : L_ := [oq_ 3 (.mv (.const (.bool false)))]
def x41_2 : L_ := [oq_ 6 (mv_ 0),
 oq_ 7 (.nilck 6),
 oq_ 8 (.faddr 0 7),
 oq_ 9 (.load .one 1 8),
 oq_ 10 (.lenS 9),
 oq_ 11 (.mv (ci_ 0))]
def x41_3 : L_ := [oq_ 12 (.bin .lss 11 10)]
def x41_4 : C_ := .cnd 12 .skip (.exit 0)
def x41_5 : L_ := [oq_ 13 (mv_ 11),
 oq_ 14 (.iaddrS 8 9 11),
 oq_ 15 (.load .agg 8 14),
 oq_ 5 (.new [(.string ⟨#[]⟩), (.int .i64 0), (.int .i64 0), (.int .i64 0), (.int .i64 0), (.int .i64 0), (.string ⟨#[]⟩), (.int .i64 0)]),
 oq_ 4 (mv_ 13),
 on_ (.store 8 5 15)]
def x41_6 : L_ := [oq_ 16 (.faddr 0 5),
 oq_ 17 (.load .str 1 16),
 oq_ 18 (.bin .eql 17 (.const (.string ⟨#[]⟩))),
 oq_ 19 (mv_ 18),
 og_ 20 19 true (.faddr 1 5),
 og_ 21 19 true (.faddr 0 20),
 og_ 22 19 true (.load (.int .i64) 1 21),
 ⟨(some 23), .callF 52 [22], (some (19, true))⟩,
 ⟨(some 24), .pick 19 23 (.const (.bool false)), none⟩,
 oq_ 25 (mv_ 24),
 og_ 26 25 true (.faddr 6 5),
 og_ 27 25 true (.load .str 1 26),
 og_ 28 25 true (.bin .neq 27 (.const (.string ⟨#[]⟩))),
 ⟨(some 29), .pick 25 28 (.const (.bool false)), none⟩,
 oq_ 30 (mv_ 29),
 og_ 31 30 true (mv_ 0),
 og_ 32 30 true (.nilck 31),
 og_ 33 30 true (.faddr 1 32),
 og_ 34 30 true (.load .one 1 33),
 og_ 35 30 true (mv_ 4),
 og_ 36 30 true (.iaddrS 1 34 35),
 og_ 37 30 true (.load .bool 1 36),
 og_ 38 30 true (.un .not 37),
 ⟨(some 39), .pick 30 38 (.const (.bool false)), none⟩,
 oq_ 40 (mv_ 39),
 og_ 41 40 true (.faddr 1 5),
 og_ 42 40 true (.faddr 0 41),
 og_ 43 40 true (.load (.int .i64) 1 42),
 og_ 44 40 true (mv_ 0),
 og_ 45 40 true (.nilck 44),
 og_ 46 40 true (.faddr 3 45),
 og_ 47 40 true (.load .one 1 46),
 og_ 48 40 true (.faddr 6 5),
 og_ 49 40 true (.load .str 1 48),
 og_ 50 40 true (.lookup 9 3 .string (.int .i64 0) false 47 49),
 og_ 51 40 true (mv_ 0),
 og_ 52 40 true (.nilck 51),
 og_ 53 40 true (.faddr 4 52),
 og_ 54 40 true (.load .one 1 53),
 og_ 55 40 true (mv_ 4),
 og_ 56 40 true (.iaddrS 1 54 55),
 og_ 57 40 true (.load (.int .i64) 1 56),
 og_ 58 40 true (.bin .sub 50 57),
 ⟨(some 59), .callF 53 [43, 58], (some (40, true))⟩,
 og_ 60 40 true (.un .not 59),
 ⟨(some 61), .pick 40 60 (.const (.bool false)), none⟩]
def x41_7 : L_ := [oq_ 62 (mv_ 0),
 oq_ 63 (.nilck 62),
 oq_ 64 (.faddr 1 63),
 oq_ 65 (.load .one 1 64),
 oq_ 66 (mv_ 4),
 oq_ 67 (.iaddrS 1 65 66),
 on_ (.store 1 67 (.const (.bool true))),
 oq_ 3 (.mv (.const (.bool true)))]
def x41_8 : C_ := .cnd 61 (r_ x41_7) .skip
def x41_9 : C_ := .seq (.draw x41_6 [[], [0], [0, 1], [0, 1, 2], [0, 1, 2, 3], [0, 1, 2, 3, 4], [0, 1, 2, 3, 4, 5], [0, 1, 2, 3, 4, 5, 6], [0, 1, 2, 3, 4, 5, 6, 7], [0, 1, 2, 3, 4, 5, 6, 7, 8], [0, 1, 2, 3, 4, 5, 6, 7, 8, 9], [0, 1, 2, 3, 4, 5, 6, 7, 8, 9, 10], [0, 1, 2, 3, 4, 5, 6, 7, 8, 9, 10, 11], [0, 1, 2, 3, 4, 5, 6, 7, 8, 9, 10, 11, 12], [0, 1, 2, 3, 4, 5, 6, 7, 8, 9, 10, 11, 12, 13], [0, 1, 2, 3, 4, 5, 6, 7, 8, 9, 10, 11, 12, 13, 14], [0, 1, 2, 3, 4, 5, 6, 7, 8, 9, 10, 11, 12, 13, 14, 15], [0, 1, 2, 3, 4, 5, 6, 7, 8, 9, 10, 11, 12, 13, 14, 15, 16], [0, 1, 2, 3, 4, 5, 6, 7, 8, 9, 10, 11, 12, 13, 14, 15, 16, 17], [0, 1, 2, 3, 4, 5, 6, 7, 8, 9, 10, 11, 12, 13, 14], [0, 1, 2, 3, 4, 5, 6, 7, 8, 9, 10, 11, 12, 13, 14, 15, 16, 17, 18, 19], [0, 1, 2, 3, 4, 5, 6, 7, 8, 9, 10, 11, 12, 13, 14, 15, 16, 17, 18, 19, 20], [0, 1, 2, 3, 4, 5, 6, 7, 8, 9, 10, 11, 12, 13, 14, 15, 16, 17, 18, 19, 20, 21], [0, 1, 2, 3, 4, 5, 6, 7, 8, 9, 10, 11, 12, 13, 14, 15, 16, 17, 18, 19, 20, 21, 22], [0, 1, 2, 3, 4, 5, 6, 7, 8, 9, 10, 11, 12, 13, 14, 15, 16, 17, 18, 19, 20, 21, 22, 23], [0, 1, 2, 3, 4, 5, 6, 7, 8, 9, 10, 11, 12, 13, 14, 15, 16, 17, 18, 19, 20, 21, 22, 23, 24], [0, 1, 2, 3, 4, 5, 6, 7, 8, 9, 10, 11, 12, 13, 14, 15, 16, 17, 18, 19, 20, 21, 22, 23, 24, 25], [0, 1, 2, 3, 4, 5, 6, 7, 8, 9, 10, 11, 12, 13, 14, 15, 16, 17, 18, 19, 20, 21, 22, 23, 24, 25, 26], [0, 1, 2, 3, 4, 5, 6, 7, 8, 9, 10, 11, 12, 13, 14, 15, 16, 17, 18, 19, 20, 21, 22, 23, 24], [0, 1, 2, 3, 4, 5, 6, 7, 8, 9, 10, 11, 12, 13, 14, 15, 16, 17, 18, 19, 20, 21, 22, 23, 24, 28], [0, 1, 2, 3, 4, 5, 6, 7, 8, 9, 10, 11, 12, 13, 14, 15, 16, 17, 18, 19, 20, 21, 22, 23, 24, 28, 29], [0, 1, 2, 3, 4, 5, 6, 7, 8, 9, 10, 11, 12, 13, 14, 15, 16, 17, 18, 19, 20, 21, 22, 23, 24, 28, 29, 30], [0, 1, 2, 3, 4, 5, 6, 7, 8, 9, 10, 11, 12, 13, 14, 15, 16, 17, 18, 19, 20, 21, 22, 23, 24], [0, 1, 2, 3, 4, 5, 6, 7, 8, 9, 10, 11, 12, 13, 14, 15, 16, 17, 18, 19, 20, 21, 22, 23, 24, 32], [0, 1, 2, 3, 4, 5, 6, 7, 8, 9, 10, 11, 12, 13, 14, 15, 16, 17, 18, 19, 20, 21, 22, 23, 24, 28, 29, 30, 31, 32, 33], [0, 1, 2, 3, 4, 5, 6, 7, 8, 9, 10, 11, 12, 13, 14, 15, 16, 17, 18, 19, 20, 21, 22, 23, 24], [0, 1, 2, 3, 4, 5, 6, 7, 8, 9, 10, 11, 12, 13, 14, 15, 16, 17, 18, 19, 20, 21, 22, 23, 24, 35], [0, 1, 2, 3, 4, 5, 6, 7, 8, 9, 10, 11, 12, 13, 14, 15, 16, 17, 18, 19, 20, 21, 22, 23, 24, 35, 36], [0, 1, 2, 3, 4, 5, 6, 7, 8, 9, 10, 11, 12, 13, 14, 15, 16, 17, 18, 19, 20, 21, 22, 23, 24, 35, 36, 37], [0, 1, 2, 3, 4, 5, 6, 7, 8, 9, 10, 11, 12, 13, 14, 15, 16, 17, 18, 19, 20, 21, 22, 23, 24], [0, 1, 2, 3, 4, 5, 6, 7, 8, 9, 10, 11, 12, 13, 14, 15, 16, 17, 18, 19, 20, 21, 22, 23, 24, 35, 36, 37, 38, 39], [0, 1, 2, 3, 4, 5, 6, 7, 8, 9, 10, 11, 12, 13, 14, 15, 16, 17, 18, 19, 20, 21, 22, 23, 24, 35, 36, 37, 38, 39, 40], [0, 1, 2, 3, 4, 5, 6, 7, 8, 9, 10, 11, 12, 13, 14, 15, 16, 17, 18, 19, 20, 21, 22, 23, 24, 28, 29, 30, 31, 32, 33, 34, 35, 36, 37, 38, 39, 40, 41], [0, 1, 2, 3, 4, 5, 6, 7, 8, 9, 10, 11, 12, 13, 14, 15, 16, 17, 18, 19, 20, 21, 22, 23, 24, 25, 26, 27, 28, 29, 30, 31, 32, 33, 34, 35, 36, 37, 38, 39, 40, 41, 42], [0, 1, 2, 3, 4, 5, 6, 7, 8, 9, 10, 11, 12, 13, 14, 15, 16, 17, 18, 19, 20, 21, 22, 23, 24, 25, 26, 27, 28, 29, 30, 31, 32, 33, 34, 35, 36, 37, 38, 39, 40, 41, 42, 43], [0, 1, 2, 3, 4, 5, 6, 7, 8, 9, 10, 11, 12, 13, 14, 15, 16, 17, 18, 19, 20, 21, 22, 23, 24, 25, 26, 27, 28, 29, 30, 31, 32, 33, 34, 35, 36, 37, 38, 39, 40, 41, 42, 43, 44]]) x41_8
def x41_10 : C_ := .seq (r_ x41_5) x41_9
def x41_11 : C_ := .block 1 x41_10
def x41_12 : L_ := [oq_ 68 (.bin .add 11 (ci_ 1)),
 oq_ 11 (mv_ 68)]
def x41_13 : C_ := .seq x41_11 (r_ x41_12)
def x41_14 : C_ := .seq x41_4 x41_13
def x41_15 : C_ := .seq (r_ x41_3) x41_14
def x41_16 : C_ := .loop x41_15
def x41_17 : C_ := .block 0 x41_16
def x41_18 : C_ := .seq (r_ x41_2) x41_17
def x41_19 : L_ := [oq_ 69 (mv_ 3),
 oq_ 2 (mv_ 69)]
def x41_20 : C_ := .seq (r_ x41_19) .ret
def x41_21 : C_ := .seq x41_18 x41_20
def x41_22 : C_ := .seq (r_ x41_1) x41_21
def x41_23 : C_ := .seq (r_ x41_0) x41_22
def x41 : C_ := x41_23
theorem fx41 : fnx Try.prog 41 = some (70, [(2, none)], x41) := by kernel_rfl
def x42_0 : L_ := [oq_ 4 (.mv (.const (.slice none 0 0)))]
def x42_1 : L_ := [oq_ 8 (mv_ 0),
 oq_ 9 (.nilck 8),
 oq_ 10 (.faddr 0 9),
 oq_ 11 (.load .one 1 10),
 oq_ 12 (mv_ 1),
 oq_ 13 (.iaddrS 8 11 12),
 oq_ 14 (.faddr 1 13),
 oq_ 15 (.load .agg 5 14),
 oq_ 5 (.new (zs_ .i64 5)),
 on_ (.store 5 5 15)]
def x42_2 : L_ := [oq_ 16 (mv_ 0),
 oq_ 17 (.nilck 16),
 oq_ 18 (.faddr 0 17),
 oq_ 19 (.load .one 1 18),
 oq_ 20 (mv_ 1),
 oq_ 21 (.iaddrS 8 19 20),
 oq_ 22 (.faddr 6 21),
 oq_ 23 (.load .str 1 22),
 oq_ 6 (mv_ 23)]
def x42_3 : L_ := [oq_ 24 (mv_ 0),
 oq_ 25 (.nilck 24),
 oq_ 26 (.faddr 3 25),
 oq_ 27 (.load .one 1 26),
 oq_ 28 (mv_ 6),
 oq_ 29 (.lookup 9 3 .string (.int .i64 0) false 27 28),
 oq_ 30 (mv_ 0),
 oq_ 31 (.nilck 30),
 oq_ 32 (.faddr 4 31),
 oq_ 33 (.load .one 1 32),
 oq_ 34 (mv_ 1),
 oq_ 35 (.iaddrS 1 33 34),
 oq_ 36 (.load (.int .i64) 1 35),
 oq_ 37 (.bin .sub 29 36),
 oq_ 7 (mv_ 37)]
def x42_4 : L_ := [oq_ 41 (mv_ 6),
 oq_ 42 (.bin .eql 41 (.const (.string ⟨#[]⟩))),
 oq_ 40 (mv_ 42)]
def x42_5 : L_ := [oq_ 44 (mv_ 0),
 oq_ 45 (.nilck 44),
 oq_ 46 (.faddr 0 45),
 oq_ 47 (.load .one 1 46),
 oq_ 48 (mv_ 1),
 oq_ 49 (.iaddrS 8 47 48),
 oq_ 50 (.faddr 7 49),
 oq_ 51 (.load (.int .i64) 1 50),
 oq_ 52 (.bin .eql 51 (ci_ 1)),
 oq_ 43 (mv_ 52)]
def x42_6 : L_ := [oq_ 53 (mv_ 0),
 oq_ 54 (.nilck 53),
 oq_ 55 (.faddr 3 54),
 oq_ 56 (.load .one 1 55),
 oq_ 57 (mv_ 6),
 oq_ 58 (.lookup 9 3 .string (.int .i64 0) false 56 57),
 oc_ 59 54 [58],
 oq_ 60 (.faddr 4 5),
 on_ (.store 1 60 59)]
def x42_7 : L_ := [oq_ 62 (mv_ 0),
 oq_ 63 (.nilck 62),
 oq_ 64 (.faddr 0 63),
 oq_ 65 (.load .one 1 64),
 oq_ 66 (mv_ 1),
 oq_ 67 (.iaddrS 8 65 66),
 oq_ 68 (.faddr 7 67),
 oq_ 69 (.load (.int .i64) 1 68),
 oq_ 70 (.bin .eql 69 (ci_ 2)),
 oq_ 61 (mv_ 70)]
def x42_8 : L_ := [oq_ 71 (mv_ 0),
 oq_ 72 (.nilck 71),
 oq_ 73 (.faddr 3 72),
 oq_ 74 (.load .one 1 73),
 oq_ 75 (mv_ 6),
 oq_ 76 (.lookup 9 3 .string (.int .i64 0) false 74 75),
 oc_ 77 55 [76],
 oq_ 78 (.faddr 4 5),
 on_ (.store 1 78 77)]
def x42_9 : L_ := [oq_ 80 (mv_ 0),
 oq_ 81 (.nilck 80),
 oq_ 82 (.faddr 1 81),
 oq_ 83 (.load .one 1 82),
 oq_ 84 (mv_ 1),
 oq_ 85 (.iaddrS 1 83 84),
 oq_ 86 (.load .bool 1 85),
 oq_ 79 (mv_ 86)]
def x42_10 : L_ := [oq_ 87 (.faddr 0 5),
 oq_ 88 (.load (.int .i64) 1 87),
 oc_ 89 56 [88],
 oq_ 90 (.faddr 0 5),
 on_ (.store 1 90 89),
 oq_ 91 (.faddr 4 5),
 on_ (.store 1 91 (ci_ 8))]
def x42_11 : L_ := [oq_ 92 (.load .agg 5 5),
 oq_ 93 (mv_ 7),
 oq_ 94 (.bin .sub 93 (ci_ 4)),
 oq_ 95 (.build (zs_ .i64 5) [(0, 1, (ci_ 53)), (4, 1, 94)]),
 oq_ 96 (.mkslice (zs_ .i64 5) 2 [(0, 92), (1, 95)]),
 oq_ 4 (mv_ 96)]
def x42_12 : C_ := .seq (r_ x42_11) .ret
def x42_13 : C_ := .seq (r_ x42_10) x42_12
def x42_14 : L_ := [oq_ 38 (mv_ 7),
 oq_ 39 (.faddr 4 5),
 on_ (.store 1 39 38)]
def x42_15 : C_ := .cnd 79 x42_13 (r_ x42_14)
def x42_16 : C_ := .seq (r_ x42_9) x42_15
def x42_17 : C_ := .cnd 61 (r_ x42_8) x42_16
def x42_18 : C_ := .seq (r_ x42_7) x42_17
def x42_19 : C_ := .cnd 43 (r_ x42_6) x42_18
def x42_20 : C_ := .seq (r_ x42_5) x42_19
def x42_21 : C_ := .cnd 40 .skip x42_20
def x42_22 : C_ := .seq (r_ x42_4) x42_21
def x42_23 : C_ := .block 0 x42_22
def x42_24 : L_ := [oq_ 97 (.load .agg 5 5),
 oq_ 98 (.mkslice (zs_ .i64 5) 1 [(0, 97)]),
 oq_ 4 (mv_ 98)]
def x42_25 : C_ := .seq (r_ x42_24) .ret
def x42_26 : C_ := .seq x42_23 x42_25
def x42_27 : C_ := .seq (.draw x42_3 [[], [0], [0, 1], [0, 1, 2], [], [0, 1, 2, 3, 4], [], [6], [6, 7], [6, 7, 8], [], [6, 7, 8, 9, 10], [6, 7, 8, 9, 10, 11], [0, 1, 2, 3, 4, 5, 6, 7, 8, 9, 10, 11, 12], [0, 1, 2, 3, 4, 5, 6, 7, 8, 9, 10, 11, 12, 13]]) x42_26
def x42_28 : C_ := .seq (r_ x42_2) x42_27
def x42_29 : C_ := .seq (r_ x42_1) x42_28
def x42_30 : C_ := .seq (r_ x42_0) x42_29
def x42 : C_ := x42_30
theorem fx42 : fnx Try.prog 42 = some (99, [(4, none)], x42) := by kernel_rfl
def x43_0 : L_ := [oq_ 0 (.mv (.const (.map none)))]
def x43_1 : L_ := [oq_ 3 (.mkmap 3 104 (.agg #[(.int .u8 0), (.int .u32 0), (.int .u32 0), (.int .u32 0)])),
 oq_ 1 (.new [(.map none)]),
 on_ (.store 1 1 3)]
def x43_2 : L_ := [oq_ 4 (.mkfunc (.func 57) 0 [1]),
 oq_ 2 (mv_ 4)]
def x43_3 : L_ := [oq_ 5 (mv_ 2),
 oq_ 6 (.build (zs_ .u32 3) [(0, 1, (.const (.int .u32 1)))]),
 oq_ 7 (.build (zs_ .u32 3) [(0, 1, (.const (.int .u32 2))), (1, 1, (.const (.int .u32 0))), (2, 1, (.const (.int .u32 32)))]),
 oq_ 8 (.build (zs_ .u32 3) [(0, 1, (.const (.int .u32 3))), (1, 1, (.const (.int .u32 1)))]),
 oq_ 9 (.build (zs_ .u32 3) [(0, 1, (.const (.int .u32 4))), (1, 1, (.const (.int .u32 2)))]),
 oq_ 10 (.build (zs_ .u32 3) [(0, 1, (.const (.int .u32 5))), (1, 1, (.const (.int .u32 3)))]),
 oq_ 11 (.build (zs_ .u32 3) [(0, 1, (.const (.int .u32 6))), (1, 1, (.const (.int .u32 4)))]),
 oq_ 12 (.build (zs_ .u32 3) [(0, 1, (.const (.int .u32 7))), (1, 1, (.const (.int .u32 5)))]),
 oq_ 13 (.build (zs_ .u32 3) [(0, 1, (.const (.int .u32 8))), (1, 1, (.const (.int .u32 5))), (2, 1, (.const (.int .u32 32)))]),
 oq_ 14 (.build (zs_ .u32 3) [(0, 1, (.const (.int .u32 9))), (1, 1, (.const (.int .u32 6)))]),
 oq_ 15 (.build (zs_ .u32 3) [(0, 1, (.const (.int .u32 10))), (1, 1, (.const (.int .u32 7)))]),
 oq_ 16 (.mkslice (zs_ .u32 3) 10 [(0, 6), (1, 7), (2, 8), (3, 9), (4, 10), (5, 11), (6, 12), (7, 13), (8, 14), (9, 15)]),
 ⟨(some 17), .callV 5 [(.const (.int .u8 82)), (.const (.int .u32 51)), 16], none⟩]
def x43_4 : L_ := [oq_ 18 (mv_ 2),
 oq_ 19 (.build (zs_ .u32 3) [(0, 1, (.const (.int .u32 11))), (1, 1, (.const (.int .u32 0))), (2, 1, (.const (.int .u32 1)))]),
 oq_ 20 (.build (zs_ .u32 3) [(0, 1, (.const (.int .u32 12))), (1, 1, (.const (.int .u32 1))), (2, 1, (.const (.int .u32 1)))]),
 oq_ 21 (.build (zs_ .u32 3) [(0, 1, (.const (.int .u32 13))), (1, 1, (.const (.int .u32 3))), (2, 1, (.const (.int .u32 1)))]),
 oq_ 22 (.build (zs_ .u32 3) [(0, 1, (.const (.int .u32 14))), (1, 1, (.const (.int .u32 4))), (2, 1, (.const (.int .u32 1)))]),
 oq_ 23 (.build (zs_ .u32 3) [(0, 1, (.const (.int .u32 15))), (1, 1, (.const (.int .u32 5))), (2, 1, (.const (.int .u32 1)))]),
 oq_ 24 (.build (zs_ .u32 3) [(0, 1, (.const (.int .u32 16))), (1, 1, (.const (.int .u32 6))), (2, 1, (.const (.int .u32 1)))]),
 oq_ 25 (.build (zs_ .u32 3) [(0, 1, (.const (.int .u32 17))), (1, 1, (.const (.int .u32 7))), (2, 1, (.const (.int .u32 1)))]),
 oq_ 26 (.mkslice (zs_ .u32 3) 7 [(0, 19), (1, 20), (2, 21), (3, 22), (4, 23), (5, 24), (6, 25)]),
 ⟨(some 27), .callV 18 [(.const (.int .u8 82)), (.const (.int .u32 51)), 26], none⟩]
def x43_5 : L_ := [oq_ 28 (mv_ 2),
 oq_ 29 (.build (zs_ .u32 3) [(0, 1, (.const (.int .u32 18)))]),
 oq_ 30 (.build (zs_ .u32 3) [(0, 1, (.const (.int .u32 19))), (1, 1, (.const (.int .u32 0))), (2, 1, (.const (.int .u32 32)))]),
 oq_ 31 (.build (zs_ .u32 3) [(0, 1, (.const (.int .u32 20))), (1, 1, (.const (.int .u32 1)))]),
 oq_ 32 (.build (zs_ .u32 3) [(0, 1, (.const (.int .u32 21))), (1, 1, (.const (.int .u32 5)))]),
 oq_ 33 (.build (zs_ .u32 3) [(0, 1, (.const (.int .u32 22))), (1, 1, (.const (.int .u32 5))), (2, 1, (.const (.int .u32 32)))]),
 oq_ 34 (.build (zs_ .u32 3) [(0, 1, (.const (.int .u32 23))), (1, 1, (.const (.int .u32 0))), (2, 1, (.const (.int .u32 1)))]),
 oq_ 35 (.build (zs_ .u32 3) [(0, 1, (.const (.int .u32 24))), (1, 1, (.const (.int .u32 4))), (2, 1, (.const (.int .u32 1)))]),
 oq_ 36 (.build (zs_ .u32 3) [(0, 1, (.const (.int .u32 25))), (1, 1, (.const (.int .u32 5))), (2, 1, (.const (.int .u32 1)))]),
 oq_ 37 (.build (zs_ .u32 3) [(0, 1, (.const (.int .u32 26))), (1, 1, (.const (.int .u32 6))), (2, 1, (.const (.int .u32 1)))]),
 oq_ 38 (.build (zs_ .u32 3) [(0, 1, (.const (.int .u32 27))), (1, 1, (.const (.int .u32 7))), (2, 1, (.const (.int .u32 1)))]),
 oq_ 39 (.mkslice (zs_ .u32 3) 10 [(0, 29), (1, 30), (2, 31), (3, 32), (4, 33), (5, 34), (6, 35), (7, 36), (8, 37), (9, 38)]),
 ⟨(some 40), .callV 28 [(.const (.int .u8 82)), (.const (.int .u32 59)), 39], none⟩]
def x43_6 : L_ := [oq_ 41 (mv_ 2),
 oq_ 42 (.build (zs_ .u32 3) [(0, 1, (.const (.int .u32 28)))]),
 oq_ 43 (.build (zs_ .u32 3) [(0, 1, (.const (.int .u32 29))), (1, 1, (.const (.int .u32 2)))]),
 oq_ 44 (.build (zs_ .u32 3) [(0, 1, (.const (.int .u32 30))), (1, 1, (.const (.int .u32 3)))]),
 oq_ 45 (.build (zs_ .u32 3) [(0, 1, (.const (.int .u32 31))), (1, 1, (.const (.int .u32 4)))]),
 oq_ 46 (.build (zs_ .u32 3) [(0, 1, (.const (.int .u32 32))), (1, 1, (.const (.int .u32 6)))]),
 oq_ 47 (.build (zs_ .u32 3) [(0, 1, (.const (.int .u32 33))), (1, 1, (.const (.int .u32 7)))]),
 oq_ 48 (.mkslice (zs_ .u32 3) 6 [(0, 42), (1, 43), (2, 44), (3, 45), (4, 46), (5, 47)]),
 ⟨(some 49), .callV 41 [(.const (.int .u8 73)), (.const (.int .u32 19)), 48], none⟩]
def x43_7 : L_ := [oq_ 50 (mv_ 2),
 oq_ 51 (.build (zs_ .u32 3) [(0, 1, (.const (.int .u32 34))), (1, 1, (.const (.int .u32 1)))]),
 oq_ 52 (.build (zs_ .u32 3) [(0, 1, (.const (.int .u32 35))), (1, 1, (.const (.int .u32 5)))]),
 oq_ 53 (.build (zs_ .u32 3) [(0, 1, (.const (.int .u32 36))), (1, 1, (.const (.int .u32 5))), (2, 1, (.const (.int .u32 32)))]),
 oq_ 54 (.mkslice (zs_ .u32 3) 3 [(0, 51), (1, 52), (2, 53)]),
 ⟨(some 55), .callV 50 [(.const (.int .u8 84)), (.const (.int .u32 19)), 54], none⟩]
def x43_8 : L_ := [oq_ 56 (mv_ 2),
 oq_ 57 (.build (zs_ .u32 3) [(0, 1, (.const (.int .u32 37)))]),
 oq_ 58 (.mkslice (zs_ .u32 3) 1 [(0, 57)]),
 ⟨(some 59), .callV 56 [(.const (.int .u8 73)), (.const (.int .u32 27)), 58], none⟩]
def x43_9 : L_ := [oq_ 60 (mv_ 2),
 oq_ 61 (.build (zs_ .u32 3) [(0, 1, (.const (.int .u32 38)))]),
 oq_ 62 (.build (zs_ .u32 3) [(0, 1, (.const (.int .u32 40))), (1, 1, (.const (.int .u32 2)))]),
 oq_ 63 (.build (zs_ .u32 3) [(0, 1, (.const (.int .u32 41))), (1, 1, (.const (.int .u32 3)))]),
 oq_ 64 (.build (zs_ .u32 3) [(0, 1, (.const (.int .u32 39))), (1, 1, (.const (.int .u32 4)))]),
 oq_ 65 (.mkslice (zs_ .u32 3) 4 [(0, 61), (1, 62), (2, 63), (3, 64)]),
 ⟨(some 66), .callV 60 [(.const (.int .u8 73)), (.const (.int .u32 3)), 65], none⟩]
def x43_10 : L_ := [oq_ 67 (mv_ 2),
 oq_ 68 (.build (zs_ .u32 3) [(0, 1, (.const (.int .u32 42)))]),
 oq_ 69 (.build (zs_ .u32 3) [(0, 1, (.const (.int .u32 43))), (1, 1, (.const (.int .u32 2)))]),
 oq_ 70 (.build (zs_ .u32 3) [(0, 1, (.const (.int .u32 44))), (1, 1, (.const (.int .u32 3)))]),
 oq_ 71 (.mkslice (zs_ .u32 3) 3 [(0, 68), (1, 69), (2, 70)]),
 ⟨(some 72), .callV 67 [(.const (.int .u8 83)), (.const (.int .u32 35)), 71], none⟩]
def x43_11 : L_ := [oq_ 73 (mv_ 2),
 oq_ 74 (.build (zs_ .u32 3) [(0, 1, (.const (.int .u32 45)))]),
 oq_ 75 (.build (zs_ .u32 3) [(0, 1, (.const (.int .u32 46))), (1, 1, (.const (.int .u32 1)))]),
 oq_ 76 (.build (zs_ .u32 3) [(0, 1, (.const (.int .u32 47))), (1, 1, (.const (.int .u32 4)))]),
 oq_ 77 (.build (zs_ .u32 3) [(0, 1, (.const (.int .u32 48))), (1, 1, (.const (.int .u32 5)))]),
 oq_ 78 (.build (zs_ .u32 3) [(0, 1, (.const (.int .u32 49))), (1, 1, (.const (.int .u32 6)))]),
 oq_ 79 (.build (zs_ .u32 3) [(0, 1, (.const (.int .u32 50))), (1, 1, (.const (.int .u32 7)))]),
 oq_ 80 (.mkslice (zs_ .u32 3) 6 [(0, 74), (1, 75), (2, 76), (3, 77), (4, 78), (5, 79)]),
 ⟨(some 81), .callV 73 [(.const (.int .u8 66)), (.const (.int .u32 99)), 80], none⟩]
def x43_12 : L_ := [oq_ 82 (mv_ 2),
 oq_ 83 (.build (zs_ .u32 3) [(0, 1, (.const (.int .u32 51)))]),
 oq_ 84 (.mkslice (zs_ .u32 3) 1 [(0, 83)]),
 ⟨(some 85), .callV 82 [(.const (.int .u8 85)), (.const (.int .u32 55)), 84], none⟩]
def x43_13 : L_ := [oq_ 86 (mv_ 2),
 oq_ 87 (.build (zs_ .u32 3) [(0, 1, (.const (.int .u32 52)))]),
 oq_ 88 (.mkslice (zs_ .u32 3) 1 [(0, 87)]),
 ⟨(some 89), .callV 86 [(.const (.int .u8 85)), (.const (.int .u32 23)), 88], none⟩]
def x43_14 : L_ := [oq_ 90 (mv_ 2),
 oq_ 91 (.build (zs_ .u32 3) [(0, 1, (.const (.int .u32 53)))]),
 oq_ 92 (.mkslice (zs_ .u32 3) 1 [(0, 91)]),
 ⟨(some 93), .callV 90 [(.const (.int .u8 74)), (.const (.int .u32 111)), 92], none⟩]
def x43_15 : L_ := [oq_ 94 (mv_ 2),
 oq_ 95 (.build (zs_ .u32 3) [(0, 1, (.const (.int .u32 54)))]),
 oq_ 96 (.mkslice (zs_ .u32 3) 1 [(0, 95)]),
 ⟨(some 97), .callV 94 [(.const (.int .u8 73)), (.const (.int .u32 103)), 96], none⟩]
def x43_16 : L_ := [oq_ 98 (mv_ 2),
 oq_ 99 (.build (zs_ .u32 3) [(0, 1, (.const (.int .u32 55)))]),
 oq_ 100 (.mkslice (zs_ .u32 3) 1 [(0, 99)]),
 ⟨(some 101), .callV 98 [(.const (.int .u8 78)), (.const (.int .u32 115)), 100], none⟩]
def x43_17 : L_ := [oq_ 102 (.load .one 1 1),
 oq_ 0 (mv_ 102)]
def x43_18 : C_ := .seq (r_ x43_17) .ret
def x43_19 : C_ := .seq (r_ x43_16) x43_18
def x43_20 : C_ := .seq (r_ x43_15) x43_19
def x43_21 : C_ := .seq (r_ x43_14) x43_20
def x43_22 : C_ := .seq (r_ x43_13) x43_21
def x43_23 : C_ := .seq (r_ x43_12) x43_22
def x43_24 : C_ := .seq (r_ x43_11) x43_23
def x43_25 : C_ := .seq (r_ x43_10) x43_24
def x43_26 : C_ := .seq (r_ x43_9) x43_25
def x43_27 : C_ := .seq (r_ x43_8) x43_26
def x43_28 : C_ := .seq (r_ x43_7) x43_27
def x43_29 : C_ := .seq (r_ x43_6) x43_28
def x43_30 : C_ := .seq (r_ x43_5) x43_29
def x43_31 : C_ := .seq (r_ x43_4) x43_30
def x43_32 : C_ := .seq (r_ x43_3) x43_31
def x43_33 : C_ := .seq (r_ x43_2) x43_32
def x43_34 : C_ := .seq (r_ x43_1) x43_33
def x43_35 : C_ := .seq (r_ x43_0) x43_34
def x43 : C_ := x43_35
theorem fx43 : fnx Try.prog 43 = some (103, [(0, none)], x43) := by kernel_rfl
def x44_0 : L_ := [oq_ 2 (.mv (ci_ 0)),
 oq_ 3 (.mv (ci_ 0))]
def x44_1 : L_ := [oq_ 4 (mv_ 0)]
def x44_2 : L_ := [oq_ 6 (.bin .eql 4 (.const (.int .u8 73))),
 oq_ 5 (mv_ 6)]
def x44_3 : L_ := [oq_ 7 (.bin .eql 4 (.const (.int .u8 83))),
 oq_ 5 (mv_ 7)]
def x44_4 : C_ := .cnd 5 .skip (r_ x44_3)
def x44_5 : C_ := .seq (r_ x44_2) x44_4
def x44_6 : L_ := [oq_ 2 (.mv (ci_ (-2048))),
 oq_ 3 (.mv (ci_ 2047))]
def x44_7 : C_ := .seq (r_ x44_6) .ret
def x44_8 : L_ := [oq_ 9 (.bin .eql 4 (.const (.int .u8 84))),
 oq_ 8 (mv_ 9)]
def x44_9 : L_ := [oq_ 2 (.mv (ci_ 0)),
 oq_ 3 (.mv (ci_ 63))]
def x44_10 : C_ := .seq (r_ x44_9) .ret
def x44_11 : L_ := [oq_ 11 (.bin .eql 4 (.const (.int .u8 66))),
 oq_ 10 (mv_ 11)]
def x44_12 : L_ := [oq_ 2 (.mv (ci_ (-4096))),
 oq_ 3 (.mv (ci_ 4094))]
def x44_13 : C_ := .seq (r_ x44_12) .ret
def x44_14 : L_ := [oq_ 13 (.bin .eql 4 (.const (.int .u8 85))),
 oq_ 12 (mv_ 13)]
def x44_15 : L_ := [oq_ 2 (.mv (ci_ (-524288))),
 oq_ 3 (.mv (ci_ 524287))]
def x44_16 : C_ := .seq (r_ x44_15) .ret
def x44_17 : L_ := [oq_ 15 (.bin .eql 4 (.const (.int .u8 74))),
 oq_ 14 (mv_ 15)]
def x44_18 : L_ := [oq_ 2 (.mv (ci_ (-1048576))),
 oq_ 3 (.mv (ci_ 1048574))]
def x44_19 : C_ := .seq (r_ x44_18) .ret
def x44_20 : C_ := .cnd 14 x44_19 .skip
def x44_21 : C_ := .seq (r_ x44_17) x44_20
def x44_22 : C_ := .cnd 12 x44_16 x44_21
def x44_23 : C_ := .seq (r_ x44_14) x44_22
def x44_24 : C_ := .cnd 10 x44_13 x44_23
def x44_25 : C_ := .seq (r_ x44_11) x44_24
def x44_26 : C_ := .cnd 8 x44_10 x44_25
def x44_27 : C_ := .seq (r_ x44_8) x44_26
def x44_28 : C_ := .cnd 5 x44_7 x44_27
def x44_29 : C_ := .seq x44_5 x44_28
def x44_30 : C_ := .block 0 x44_29
def x44_31 : C_ := .seq (r_ x44_1) x44_30
def x44_32 : L_ := [oq_ 2 (.mv (ci_ 1)),
 oq_ 3 (.mv (ci_ 0))]
def x44_33 : C_ := .seq (r_ x44_32) .ret
def x44_34 : C_ := .seq x44_31 x44_33
def x44_35 : C_ := .seq (r_ x44_0) x44_34
def x44 : C_ := x44_35
theorem fx44 : fnx Try.prog 44 = some (16, [(2, none), (3, none)], x44) := by kernel_rfl
def x45_0 : L_ := [oq_ 2 (.new [(.bool false), (.bool false), (.bool false)])]
def x45_1 : L_ := [oq_ 3 (mv_ 0)]
def x45_2 : L_ := [oq_ 5 (.bin .eql 3 (.const (.int .u8 82))),
 oq_ 4 (mv_ 5)]
def x45_3 : L_ := [oq_ 6 (.build [(.bool false), (.bool false), (.bool false)] [(0, 1, (.const (.bool true))), (1, 1, (.const (.bool true))), (2, 1, (.const (.bool true)))]),
 on_ (.store 3 2 6)]
def x45_4 : C_ := .seq (r_ x45_3) .ret
def x45_5 : L_ := [oq_ 8 (.bin .eql 3 (.const (.int .u8 73))),
 oq_ 7 (mv_ 8)]
def x45_6 : L_ := [oq_ 9 (.bin .eql 3 (.const (.int .u8 84))),
 oq_ 7 (mv_ 9)]
def x45_7 : C_ := .cnd 7 .skip (r_ x45_6)
def x45_8 : C_ := .seq (r_ x45_5) x45_7
def x45_9 : L_ := [oq_ 10 (.build [(.bool false), (.bool false), (.bool false)] [(0, 1, (.const (.bool true))), (1, 1, (.const (.bool true))), (2, 1, (.const (.bool false)))]),
 on_ (.store 3 2 10)]
def x45_10 : C_ := .seq (r_ x45_9) .ret
def x45_11 : L_ := [oq_ 12 (.bin .eql 3 (.const (.int .u8 83))),
 oq_ 11 (mv_ 12)]
def x45_12 : L_ := [oq_ 13 (.bin .eql 3 (.const (.int .u8 66))),
 oq_ 11 (mv_ 13)]
def x45_13 : C_ := .cnd 11 .skip (r_ x45_12)
def x45_14 : C_ := .seq (r_ x45_11) x45_13
def x45_15 : L_ := [oq_ 14 (.build [(.bool false), (.bool false), (.bool false)] [(0, 1, (.const (.bool false))), (1, 1, (.const (.bool true))), (2, 1, (.const (.bool true)))]),
 on_ (.store 3 2 14)]
def x45_16 : C_ := .seq (r_ x45_15) .ret
def x45_17 : L_ := [oq_ 16 (.bin .eql 3 (.const (.int .u8 85))),
 oq_ 15 (mv_ 16)]
def x45_18 : L_ := [oq_ 17 (.bin .eql 3 (.const (.int .u8 74))),
 oq_ 15 (mv_ 17)]
def x45_19 : C_ := .cnd 15 .skip (r_ x45_18)
def x45_20 : C_ := .seq (r_ x45_17) x45_19
def x45_21 : L_ := [oq_ 18 (.build [(.bool false), (.bool false), (.bool false)] [(0, 1, (.const (.bool true))), (1, 1, (.const (.bool false))), (2, 1, (.const (.bool false)))]),
 on_ (.store 3 2 18)]
def x45_22 : C_ := .seq (r_ x45_21) .ret
def x45_23 : C_ := .cnd 15 x45_22 .skip
def x45_24 : C_ := .seq x45_20 x45_23
def x45_25 : C_ := .cnd 11 x45_16 x45_24
def x45_26 : C_ := .seq x45_14 x45_25
def x45_27 : C_ := .cnd 7 x45_10 x45_26
def x45_28 : C_ := .seq x45_8 x45_27
def x45_29 : C_ := .cnd 4 x45_4 x45_28
def x45_30 : C_ := .seq (r_ x45_2) x45_29
def x45_31 : C_ := .block 0 x45_30
def x45_32 : C_ := .seq (r_ x45_1) x45_31
def x45_33 : L_ := [oq_ 19 (.build [(.bool false), (.bool false), (.bool false)] []),
 on_ (.store 3 2 19)]
def x45_34 : C_ := .seq (r_ x45_33) .ret
def x45_35 : C_ := .seq x45_32 x45_34
def x45_36 : C_ := .seq (r_ x45_0) x45_35
def x45 : C_ := x45_36
theorem fx45 : fnx Try.prog 45 = some (20, [(2, (some (.agg, 3)))], x45) := by kernel_rfl
def x46_0 : L_ := [oq_ 2 (.mv (.const (.slice none 0 0)))]
def x46_1 : L_ := [oq_ 3 (mv_ 0)]
def x46_2 : L_ := [oq_ 5 (.bin .eql 3 (.const (.int .u8 73))),
 oq_ 4 (mv_ 5)]
def x46_3 : L_ := [oq_ 6 (.build (zs_ .u64 3) [(0, 1, (.const (.int .u64 0))), (1, 1, (.const (.int .u64 12))), (2, 1, (.const (.int .u64 20)))]),
 oq_ 7 (.mkslice (zs_ .u64 3) 1 [(0, 6)]),
 oq_ 2 (mv_ 7)]
def x46_4 : C_ := .seq (r_ x46_3) .ret
def x46_5 : L_ := [oq_ 9 (.bin .eql 3 (.const (.int .u8 84))),
 oq_ 8 (mv_ 9)]
def x46_6 : L_ := [oq_ 10 (.build (zs_ .u64 3) [(0, 1, (.const (.int .u64 0))), (1, 1, (.const (.int .u64 6))), (2, 1, (.const (.int .u64 20)))]),
 oq_ 11 (.mkslice (zs_ .u64 3) 1 [(0, 10)]),
 oq_ 2 (mv_ 11)]
def x46_7 : C_ := .seq (r_ x46_6) .ret
def x46_8 : L_ := [oq_ 13 (.bin .eql 3 (.const (.int .u8 83))),
 oq_ 12 (mv_ 13)]
def x46_9 : L_ := [oq_ 14 (.build (zs_ .u64 3) [(0, 1, (.const (.int .u64 0))), (1, 1, (.const (.int .u64 5))), (2, 1, (.const (.int .u64 7)))]),
 oq_ 15 (.build (zs_ .u64 3) [(0, 1, (.const (.int .u64 5))), (1, 1, (.const (.int .u64 7))), (2, 1, (.const (.int .u64 25)))]),
 oq_ 16 (.mkslice (zs_ .u64 3) 2 [(0, 14), (1, 15)]),
 oq_ 2 (mv_ 16)]
def x46_10 : C_ := .seq (r_ x46_9) .ret
def x46_11 : L_ := [oq_ 18 (.bin .eql 3 (.const (.int .u8 66))),
 oq_ 17 (mv_ 18)]
def x46_12 : L_ := [oq_ 19 (.build (zs_ .u64 3) [(0, 1, (.const (.int .u64 11))), (1, 1, (.const (.int .u64 1))), (2, 1, (.const (.int .u64 7)))]),
 oq_ 20 (.build (zs_ .u64 3) [(0, 1, (.const (.int .u64 1))), (1, 1, (.const (.int .u64 4))), (2, 1, (.const (.int .u64 8)))]),
 oq_ 21 (.build (zs_ .u64 3) [(0, 1, (.const (.int .u64 5))), (1, 1, (.const (.int .u64 6))), (2, 1, (.const (.int .u64 25)))]),
 oq_ 22 (.build (zs_ .u64 3) [(0, 1, (.const (.int .u64 12))), (1, 1, (.const (.int .u64 1))), (2, 1, (.const (.int .u64 31)))]),
 oq_ 23 (.mkslice (zs_ .u64 3) 4 [(0, 19), (1, 20), (2, 21), (3, 22)]),
 oq_ 2 (mv_ 23)]
def x46_13 : C_ := .seq (r_ x46_12) .ret
def x46_14 : L_ := [oq_ 25 (.bin .eql 3 (.const (.int .u8 85))),
 oq_ 24 (mv_ 25)]
def x46_15 : L_ := [oq_ 26 (.build (zs_ .u64 3) [(0, 1, (.const (.int .u64 0))), (1, 1, (.const (.int .u64 20))), (2, 1, (.const (.int .u64 12)))]),
 oq_ 27 (.mkslice (zs_ .u64 3) 1 [(0, 26)]),
 oq_ 2 (mv_ 27)]
def x46_16 : C_ := .seq (r_ x46_15) .ret
def x46_17 : L_ := [oq_ 29 (.bin .eql 3 (.const (.int .u8 74))),
 oq_ 28 (mv_ 29)]
def x46_18 : L_ := [oq_ 30 (.build (zs_ .u64 3) [(0, 1, (.const (.int .u64 12))), (1, 1, (.const (.int .u64 8))), (2, 1, (.const (.int .u64 12)))]),
 oq_ 31 (.build (zs_ .u64 3) [(0, 1, (.const (.int .u64 11))), (1, 1, (.const (.int .u64 1))), (2, 1, (.const (.int .u64 20)))]),
 oq_ 32 (.build (zs_ .u64 3) [(0, 1, (.const (.int .u64 1))), (1, 1, (.const (.int .u64 10))), (2, 1, (.const (.int .u64 21)))]),
 oq_ 33 (.build (zs_ .u64 3) [(0, 1, (.const (.int .u64 20))), (1, 1, (.const (.int .u64 1))), (2, 1, (.const (.int .u64 31)))]),
 oq_ 34 (.mkslice (zs_ .u64 3) 4 [(0, 30), (1, 31), (2, 32), (3, 33)]),
 oq_ 2 (mv_ 34)]
def x46_19 : C_ := .seq (r_ x46_18) .ret
def x46_20 : C_ := .cnd 28 x46_19 .skip
def x46_21 : C_ := .seq (r_ x46_17) x46_20
def x46_22 : C_ := .cnd 24 x46_16 x46_21
def x46_23 : C_ := .seq (r_ x46_14) x46_22
def x46_24 : C_ := .cnd 17 x46_13 x46_23
def x46_25 : C_ := .seq (r_ x46_11) x46_24
def x46_26 : C_ := .cnd 12 x46_10 x46_25
def x46_27 : C_ := .seq (r_ x46_8) x46_26
def x46_28 : C_ := .cnd 8 x46_7 x46_27
def x46_29 : C_ := .seq (r_ x46_5) x46_28
def x46_30 : C_ := .cnd 4 x46_4 x46_29
def x46_31 : C_ := .seq (r_ x46_2) x46_30
def x46_32 : C_ := .block 0 x46_31
def x46_33 : C_ := .seq (r_ x46_1) x46_32
def x46_34 : L_ := [oq_ 2 (.mv (.const (.slice none 0 0)))]
def x46_35 : C_ := .seq (r_ x46_34) .ret
def x46_36 : C_ := .seq x46_33 x46_35
def x46_37 : C_ := .seq (r_ x46_0) x46_36
def x46 : C_ := x46_37
theorem fx46 : fnx Try.prog 46 = some (35, [(2, none)], x46) := by kernel_rfl
def x48_0 : L_ := [oq_ 8 (.new [(.int .i64 0), (.int .u8 0), (.int .i64 0), (.slice none 0 0), (.int .i64 0), (.int .i64 0)]),
 oq_ 9 (.mv (.const (.slice none 0 0)))]
def x48_1 : L_ := [oq_ 12 (mv_ 0),
 oq_ 13 (mv_ 1),
 oq_ 14 (mv_ 3),
 oq_ 15 (.build [(.pointer none), (.slice none 0 0), (.slice none 0 0), (.int .i64 0), (.bool false), (.slice none 0 0)] [(0, 1, 12), (1, 1, 13), (4, 1, 14)]),
 oq_ 16 (.box 15),
 oq_ 10 (mv_ 16)]
def x48_2 : L_ := [oq_ 11 (.mv (ci_ 0))]
def x48_3 : L_ := [oq_ 17 (mv_ 11),
 oq_ 18 (mv_ 2),
 oq_ 19 (.bin .lss 17 18),
 oq_ 20 (mv_ 19),
 og_ 21 20 true (mv_ 0),
 og_ 22 20 true (.nilck 21),
 og_ 23 20 true (.faddr 34 22),
 og_ 24 20 true (.load (.int .i64) 1 23),
 og_ 25 20 true (.bin .eql 24 (ci_ 0)),
 ⟨(some 26), .pick 20 25 (.const (.bool false)), none⟩]
def x48_4 : C_ := .cnd 26 .skip (.exit 0)
def x48_5 : C_ := .seq (r_ x48_3) x48_4
def x48_6 : L_ := [oq_ 27 (mv_ 10),
 oc_ 28 61 [27],
 oq_ 29 (.un .not 28)]
def x48_7 : L_ := [oq_ 30 (mv_ 0),
 oq_ 31 (.nilck 30),
 oq_ 32 (.faddr 34 31),
 on_ (.store 1 32 (ci_ 4))]
def x48_8 : C_ := .seq (r_ x48_7) (.exit 0)
def x48_9 : C_ := .cnd 29 x48_8 .skip
def x48_10 : C_ := .seq (r_ x48_6) x48_9
def x48_11 : L_ := [oq_ 33 (mv_ 11),
 oq_ 34 (.bin .add 33 (ci_ 1)),
 oq_ 11 (mv_ 34)]
def x48_12 : C_ := .seq x48_10 (r_ x48_11)
def x48_13 : C_ := .block 1 x48_12
def x48_14 : C_ := .seq x48_5 x48_13
def x48_15 : C_ := .loop x48_14
def x48_16 : C_ := .block 0 x48_15
def x48_17 : L_ := [oq_ 35 (mv_ 0),
 oq_ 36 (.nilck 35),
 oq_ 37 (.faddr 34 36),
 oq_ 38 (.load (.int .i64) 1 37),
 oq_ 39 (mv_ 0),
 oq_ 40 (.nilck 39),
 oq_ 41 (.faddr 35 40),
 oq_ 42 (.load (.int .u8) 1 41),
 oq_ 43 (mv_ 10),
 oq_ 44 (.nilck 43),
 oq_ 45 (.faddr 2 44),
 oq_ 46 (.load .one 1 45),
 oq_ 47 (mv_ 11),
 oq_ 48 (mv_ 10),
 oq_ 49 (.nilck 48),
 oq_ 50 (.faddr 3 49),
 oq_ 51 (.load (.int .i64) 1 50),
 oq_ 52 (.build [(.int .i64 0), (.int .u8 0), (.int .i64 0), (.slice none 0 0), (.int .i64 0), (.int .i64 0)] [(0, 1, 38), (1, 1, 42), (3, 1, 46), (4, 1, 47), (5, 1, 51)]),
 oq_ 53 (mv_ 10),
 oq_ 54 (.nilck 53),
 oq_ 55 (.faddr 5 54),
 oq_ 56 (.load .one 1 55),
 on_ (.store 6 8 52),
 oq_ 9 (mv_ 56)]
def x48_18 : C_ := .seq (.draw x48_17 [[], [0], [0, 1], [0, 1, 2], [], [4], [4, 5], [4, 5, 6], [], [8], [8, 9], [8, 9, 10], [], [], [13], [13, 14], [13, 14, 15], [0, 1, 2, 3, 4, 5, 6, 7, 8, 9, 10, 11, 12, 13, 14, 15, 16], [], [18], [18, 19], [18, 19, 20], [0, 1, 2, 3, 4, 5, 6, 7, 8, 9, 10, 11, 12, 13, 14, 15, 16, 17], [0, 1, 2, 3, 4, 5, 6, 7, 8, 9, 10, 11, 12, 13, 14, 15, 16, 17, 18, 19, 20, 21, 22]]) .ret
def x48_19 : C_ := .seq x48_16 x48_18
def x48_20 : C_ := .seq (r_ x48_2) x48_19
def x48_21 : C_ := .seq (r_ x48_1) x48_20
def x48_22 : C_ := .seq (r_ x48_0) x48_21
def x48 : C_ := x48_22
theorem fx48 : fnx Try.prog 48 = some (57, [(8, (some (.agg, 6))), (9, none)], x48) := by kernel_rfl
def x51_0 : L_ := [oq_ 1 (.box 0),
 oq_ 2 (.mv (.const (.bool false)))]
def x51_1 : L_ := [oq_ 5 (.faddr 0 1),
 oq_ 6 (.load .str 1 5),
 oq_ 7 (.bin .neq 6 (.const (.string ⟨#[]⟩)))]
def x51_2 : L_ := [oq_ 8 (.faddr 1 1),
 oq_ 9 (.load .agg 5 8),
 oq_ 10 (.build (zs_ .i64 5) []),
 oq_ 11 (.eqagg false [0, 0, 0, 0, 0] 9 10),
 oq_ 12 (mv_ 11),
 og_ 13 12 true (.faddr 6 1),
 og_ 14 12 true (.load .str 1 13),
 og_ 15 12 true (.bin .eql 14 (.const (.string ⟨#[]⟩))),
 ⟨(some 16), .pick 12 15 (.const (.bool false)), none⟩,
 oq_ 17 (mv_ 16),
 og_ 18 17 true (.faddr 7 1),
 og_ 19 17 true (.load (.int .i64) 1 18),
 og_ 20 17 true (.bin .eql 19 (ci_ 0)),
 ⟨(some 21), .pick 17 20 (.const (.bool false)), none⟩,
 oq_ 2 (mv_ 21)]
def x51_3 : C_ := .seq (r_ x51_2) .ret
def x51_4 : C_ := .cnd 7 x51_3 .skip
def x51_5 : C_ := .seq (r_ x51_1) x51_4
def x51_6 : L_ := [oq_ 23 (.faddr 1 1),
 oq_ 24 (.load .agg 5 23),
 oc_ 25 18 [24],
 oq_ 22 (mv_ 25),
 oq_ 26 (.ext 22 0),
 oq_ 27 (.ext 22 1),
 oq_ 3 (mv_ 26),
 oq_ 4 (mv_ 27)]
def x51_7 : L_ := [oq_ 28 (mv_ 4),
 oq_ 29 (.bin .neq 28 (ci_ 0))]
def x51_8 : L_ := [oq_ 2 (.mv (.const (.bool false)))]
def x51_9 : C_ := .seq (r_ x51_8) .ret
def x51_10 : C_ := .cnd 29 x51_9 .skip
def x51_11 : C_ := .seq (r_ x51_7) x51_10
def x51_12 : C_ := .seq (r_ x51_6) x51_11
def x51_13 : L_ := [oq_ 31 (.faddr 6 1),
 oq_ 32 (.load .str 1 31),
 oq_ 33 (.bin .eql 32 (.const (.string ⟨#[]⟩))),
 oq_ 30 (mv_ 33)]
def x51_14 : L_ := [oq_ 34 (.faddr 7 1),
 oq_ 35 (.load (.int .i64) 1 34),
 oq_ 36 (.bin .eql 35 (ci_ 0)),
 oq_ 2 (mv_ 36)]
def x51_15 : C_ := .seq (r_ x51_14) .ret
def x51_16 : L_ := [oq_ 38 (.faddr 1 1),
 oq_ 39 (.faddr 0 38),
 oq_ 40 (.load (.int .i64) 1 39),
 oc_ 41 52 [40],
 oq_ 42 (mv_ 41),
 og_ 43 42 false (.faddr 1 1),
 og_ 44 42 false (.faddr 0 43),
 og_ 45 42 false (.load (.int .i64) 1 44),
 og_ 46 42 false (.bin .eql 45 (ci_ 53)),
 ⟨(some 47), .pick 42 (.const (.bool true)) 46, none⟩,
 oq_ 37 (mv_ 47)]
def x51_17 : L_ := [oq_ 48 (.faddr 7 1),
 oq_ 49 (.load (.int .i64) 1 48),
 oq_ 50 (.bin .eql 49 (ci_ 0)),
 oq_ 51 (mv_ 50),
 og_ 52 51 true (.faddr 1 1),
 og_ 53 51 true (.faddr 4 52),
 og_ 54 51 true (.load (.int .i64) 1 53),
 og_ 55 51 true (.bin .eql 54 (ci_ 0)),
 ⟨(some 56), .pick 51 55 (.const (.bool false)), none⟩,
 oq_ 2 (mv_ 56)]
def x51_18 : C_ := .seq (r_ x51_17) .ret
def x51_19 : L_ := [oq_ 58 (.faddr 1 1),
 oq_ 59 (.faddr 0 58),
 oq_ 60 (.load (.int .i64) 1 59),
 oq_ 61 (.bin .eql 60 (ci_ 51)),
 oq_ 57 (mv_ 61)]
def x51_20 : L_ := [oq_ 62 (.faddr 7 1),
 oq_ 63 (.load (.int .i64) 1 62),
 oq_ 64 (.bin .eql 63 (ci_ 1)),
 oq_ 65 (mv_ 64),
 og_ 66 65 true (.faddr 1 1),
 og_ 67 65 true (.faddr 4 66),
 og_ 68 65 true (.load (.int .i64) 1 67),
 og_ 69 65 true (.bin .eql 68 (ci_ 0)),
 ⟨(some 70), .pick 65 69 (.const (.bool false)), none⟩,
 oq_ 2 (mv_ 70)]
def x51_21 : C_ := .seq (r_ x51_20) .ret
def x51_22 : L_ := [oq_ 72 (.faddr 1 1),
 oq_ 73 (.faddr 0 72),
 oq_ 74 (.load (.int .i64) 1 73),
 oq_ 75 (.bin .eql 74 (ci_ 28)),
 oq_ 71 (mv_ 75)]
def x51_23 : L_ := [oq_ 76 (.faddr 7 1),
 oq_ 77 (.load (.int .i64) 1 76),
 oq_ 78 (.bin .eql 77 (ci_ 2)),
 oq_ 79 (mv_ 78),
 og_ 80 79 true (.faddr 1 1),
 og_ 81 79 true (.faddr 4 80),
 og_ 82 79 true (.load (.int .i64) 1 81),
 og_ 83 79 true (.bin .eql 82 (ci_ 0)),
 ⟨(some 84), .pick 79 83 (.const (.bool false)), none⟩,
 oq_ 2 (mv_ 84)]
def x51_24 : C_ := .seq (r_ x51_23) .ret
def x51_25 : C_ := .cnd 71 x51_24 .skip
def x51_26 : C_ := .seq (r_ x51_22) x51_25
def x51_27 : C_ := .cnd 57 x51_21 x51_26
def x51_28 : C_ := .seq (r_ x51_19) x51_27
def x51_29 : C_ := .cnd 37 x51_18 x51_28
def x51_30 : C_ := .seq (r_ x51_16) x51_29
def x51_31 : C_ := .cnd 30 x51_15 x51_30
def x51_32 : C_ := .seq (r_ x51_13) x51_31
def x51_33 : C_ := .block 0 x51_32
def x51_34 : L_ := [oq_ 2 (.mv (.const (.bool false)))]
def x51_35 : C_ := .seq (r_ x51_34) .ret
def x51_36 : C_ := .seq x51_33 x51_35
def x51_37 : C_ := .seq x51_12 x51_36
def x51_38 : C_ := .seq x51_5 x51_37
def x51_39 : C_ := .seq (r_ x51_0) x51_38
def x51 : C_ := x51_39
theorem fx51 : fnx Try.prog 51 = some (85, [(2, none)], x51) := by kernel_rfl
def x52_0 : L_ := [oq_ 2 (.mv (.const (.bool false)))]
def x52_1 : L_ := [oq_ 3 (mv_ 0),
 oq_ 4 (.bin .geq 3 (ci_ 45)),
 oq_ 5 (mv_ 4),
 og_ 6 5 true (mv_ 0),
 og_ 7 5 true (.bin .leq 6 (ci_ 50)),
 ⟨(some 8), .pick 5 7 (.const (.bool false)), none⟩,
 oq_ 2 (mv_ 8)]
def x52_2 : C_ := .seq (r_ x52_1) .ret
def x52_3 : C_ := .seq (r_ x52_0) x52_2
def x52 : C_ := x52_3
theorem fx52 : fnx Try.prog 52 = some (9, [(2, none)], x52) := by kernel_rfl
def x53_0 : L_ := [oq_ 4 (.mv (.const (.bool false)))]
def x53_1 : L_ := [oq_ 8 (mv_ 0),
 oc_ 9 71 [8],
 oq_ 7 (mv_ 9),
 oq_ 10 (.ext 7 0),
 oq_ 11 (.ext 7 1),
 oq_ 5 (mv_ 10),
 oq_ 6 (mv_ 11)]
def x53_2 : L_ := [oq_ 12 (mv_ 1),
 oq_ 13 (mv_ 5),
 oq_ 14 (.bin .geq 12 13),
 oq_ 15 (mv_ 14),
 og_ 16 15 true (mv_ 1),
 og_ 17 15 true (mv_ 6),
 og_ 18 15 true (.bin .leq 16 17),
 ⟨(some 19), .pick 15 18 (.const (.bool false)), none⟩,
 oq_ 4 (mv_ 19)]
def x53_3 : C_ := .seq (r_ x53_2) .ret
def x53_4 : C_ := .seq (r_ x53_1) x53_3
def x53_5 : C_ := .seq (r_ x53_0) x53_4
def x53 : C_ := x53_5
theorem fx53 : fnx Try.prog 53 = some (20, [(4, none)], x53) := by kernel_rfl
def x54_0 : L_ := [oq_ 2 (.mv (ci_ 0))]
def x54_1 : L_ := [oq_ 3 (mv_ 0),
 oq_ 4 (mv_ 0),
 oc_ 5 55 [4],
 oq_ 6 (.bin .sub 3 5),
 oq_ 7 (.bin .shr 6 (.const (.int .u64 12))),
 oq_ 2 (mv_ 7)]
def x54_2 : C_ := .seq (r_ x54_1) .ret
def x54_3 : C_ := .seq (r_ x54_0) x54_2
def x54 : C_ := x54_3
theorem fx54 : fnx Try.prog 54 = some (8, [(2, none)], x54) := by kernel_rfl
def x55_0 : L_ := [oq_ 2 (.mv (ci_ 0))]
def x55_1 : L_ := [oq_ 3 (mv_ 0),
 oq_ 4 (.bin .and 3 (ci_ 4095)),
 oq_ 5 (.bin .xor 4 (ci_ 2048)),
 oq_ 6 (.bin .sub 5 (ci_ 2048)),
 oq_ 2 (mv_ 6)]
def x55_2 : C_ := .seq (r_ x55_1) .ret
def x55_3 : C_ := .seq (r_ x55_0) x55_2
def x55 : C_ := x55_3
theorem fx55 : fnx Try.prog 55 = some (7, [(2, none)], x55) := by kernel_rfl
def x56_0 : L_ := [oq_ 2 (.mv (ci_ 0))]
def x56_1 : L_ := [oq_ 3 (mv_ 0),
 oq_ 4 (.bin .sub 3 (ci_ 45)),
 oq_ 5 (.bin .xor 4 (ci_ 1)),
 oq_ 6 (.bin .add 5 (ci_ 45)),
 oq_ 2 (mv_ 6)]
def x56_2 : C_ := .seq (r_ x56_1) .ret
def x56_3 : C_ := .seq (r_ x56_0) x56_2
def x56 : C_ := x56_3
theorem fx56 : fnx Try.prog 56 = some (7, [(2, none)], x56) := by kernel_rfl
def x57_0 : L_ := [oq_ 9 (mv_ 2),
 oq_ 10 (.lenS 9),
 oq_ 11 (.mv (ci_ 0))]
def x57_1 : L_ := [oq_ 12 (.bin .lss 11 10)]
def x57_2 : C_ := .cnd 12 .skip (.exit 0)
def x57_3 : L_ := [oq_ 13 (.iaddrS 3 9 11),
 oq_ 14 (.load .agg 3 13),
 oq_ 8 (.new (zs_ .u32 3)),
 on_ (.store 3 8 14)]
def x57_4 : L_ := [oq_ 15 (.load .one 1 3),
 oq_ 16 (.iaddrA false 3 1 8 (ci_ 0)),
 oq_ 17 (.load (.int .u32) 1 16),
 oq_ 18 (.conv .i64 17),
 oq_ 19 (mv_ 0),
 oq_ 20 (mv_ 1),
 oq_ 21 (.iaddrA false 3 1 8 (ci_ 1)),
 oq_ 22 (.load (.int .u32) 1 21),
 oq_ 23 (.iaddrA false 3 1 8 (ci_ 2)),
 oq_ 24 (.load (.int .u32) 1 23),
 oq_ 25 (.build (zs_ .u32 3) [(0, 1, 20), (1, 1, 22), (2, 1, 24)]),
 oq_ 26 (.build [(.int .u8 0), (.int .u32 0), (.int .u32 0), (.int .u32 0)] [(0, 1, 19), (1, 3, 25)]),
 on_ (.mapupd 3 104 (.int .i64) 15 18 26)]
def x57_5 : C_ := .seq (r_ x57_3) (r_ x57_4)
def x57_6 : C_ := .block 1 x57_5
def x57_7 : L_ := [oq_ 27 (.bin .add 11 (ci_ 1)),
 oq_ 11 (mv_ 27)]
def x57_8 : C_ := .seq x57_6 (r_ x57_7)
def x57_9 : C_ := .seq x57_2 x57_8
def x57_10 : C_ := .seq (r_ x57_1) x57_9
def x57_11 : C_ := .loop x57_10
def x57_12 : C_ := .block 0 x57_11
def x57_13 : C_ := .seq (r_ x57_0) x57_12
def x57 : C_ := x57_13
theorem fx57 : fnx Try.prog 57 = some (28, [], x57) := by kernel_rfl
def x61_0 : L_ := [oq_ 2 (.mv (.const (.bool false)))]
def x61_1 : L_ := [oq_ 10 (mv_ 0),
 oq_ 11 (.nilck 10),
 oq_ 12 (.faddr 0 11),
 oq_ 13 (.load .one 1 12),
 oc_ 14 72 [13],
 oq_ 9 (mv_ 14),
 oq_ 15 (.ext 9 0),
 oq_ 16 (.ext 9 1),
 oq_ 3 (.new (zs_ .i64 5)),
 on_ (.store 5 3 15),
 oq_ 4 (mv_ 16)]
def x61_2 : L_ := [oq_ 17 (mv_ 4),
 oq_ 18 (.un .not 17)]
def x61_3 : L_ := [oq_ 2 (.mv (.const (.bool false)))]
def x61_4 : C_ := .seq (r_ x61_3) .ret
def x61_5 : C_ := .cnd 18 x61_4 .skip
def x61_6 : C_ := .seq (r_ x61_2) x61_5
def x61_7 : L_ := [oq_ 19 (mv_ 0),
 oq_ 20 (.nilck 19),
 oq_ 21 (.faddr 0 20),
 oq_ 22 (.load .one 1 21),
 oq_ 23 (.faddr 2 3),
 oq_ 24 (.load (.int .i64) 1 23),
 oq_ 25 (.nilck 22),
 oq_ 26 (.faddr 1 25),
 oq_ 27 (.iaddrA true 32 1 26 24),
 oq_ 28 (.load (.int .u64) 1 27),
 oq_ 29 (.faddr 4 3),
 oq_ 30 (.load (.int .i64) 1 29),
 oc_ 31 73 [30],
 oq_ 5 (mv_ 28),
 oq_ 6 (mv_ 31)]
def x61_8 : L_ := [oq_ 32 (mv_ 0),
 oq_ 33 (.nilck 32),
 oq_ 34 (.faddr 0 33),
 oq_ 35 (.load .one 1 34),
 oq_ 36 (.nilck 35),
 oq_ 37 (.faddr 33 36),
 oq_ 38 (.load (.int .u64) 1 37),
 oq_ 39 (.bin .add 38 (.const (.int .u64 4))),
 oq_ 7 (mv_ 39)]
def x61_9 : L_ := [oq_ 40 (.faddr 0 3),
 oq_ 41 (.load (.int .i64) 1 40),
 oq_ 8 (mv_ 41)]
def x61_10 : L_ := [oq_ 45 (mv_ 8),
 oq_ 46 (.bin .leq 45 (ci_ 27)),
 oq_ 44 (mv_ 46)]
def x61_11 : L_ := [oq_ 48 (mv_ 0),
 oq_ 49 (.nilck 48),
 oq_ 50 (.faddr 0 49),
 oq_ 51 (.load .one 1 50),
 oq_ 52 (.faddr 1 3),
 oq_ 53 (.load (.int .i64) 1 52),
 oq_ 54 (mv_ 8),
 oq_ 55 (mv_ 5),
 oq_ 56 (mv_ 0),
 oq_ 57 (.nilck 56),
 oq_ 58 (.faddr 0 57),
 oq_ 59 (.load .one 1 58),
 oq_ 60 (.faddr 3 3),
 oq_ 61 (.load (.int .i64) 1 60),
 oq_ 62 (.nilck 59),
 oq_ 63 (.faddr 1 62),
 oq_ 64 (.iaddrA true 32 1 63 61),
 oq_ 65 (.load (.int .u64) 1 64),
 oc_ 66 74 [54, 55, 65],
 oq_ 47 (mv_ 66),
 oq_ 67 (.ext 47 0),
 oq_ 68 (.ext 47 1),
 oq_ 69 (.nilck 51),
 oq_ 70 (.faddr 1 69),
 oq_ 71 (.iaddrA true 32 1 70 53),
 on_ (.store 1 71 67)]
def x61_12 : L_ := [oq_ 73 (mv_ 8),
 oq_ 74 (.bin .leq 73 (ci_ 37)),
 oq_ 72 (mv_ 74)]
def x61_13 : L_ := [oq_ 75 (.load .agg 5 3),
 oq_ 76 (.build (zs_ .i64 5) [(0, 1, (ci_ 28)), (4, 1, (ci_ 1))]),
 oq_ 77 (.eqagg false [0, 0, 0, 0, 0] 75 76)]
def x61_14 : L_ := [oq_ 78 (mv_ 0),
 oq_ 79 (.nilck 78),
 oq_ 80 (.faddr 3 79),
 oq_ 81 (.load (.int .i64) 1 80),
 oq_ 82 (.bin .add 81 (ci_ 1)),
 oq_ 83 (.nilck 78),
 oq_ 84 (.faddr 3 83),
 on_ (.store 1 84 82)]
def x61_15 : C_ := .cnd 77 (r_ x61_14) .skip
def x61_16 : C_ := .seq (r_ x61_13) x61_15
def x61_17 : L_ := [oq_ 86 (mv_ 0),
 oq_ 87 (.nilck 86),
 oq_ 88 (.faddr 0 87),
 oq_ 89 (.load .one 1 88),
 oq_ 90 (.faddr 1 3),
 oq_ 91 (.load (.int .i64) 1 90),
 oq_ 92 (mv_ 8),
 oc_ 93 75 [92],
 oq_ 94 (mv_ 5),
 oq_ 95 (mv_ 6),
 oc_ 96 74 [93, 94, 95],
 oq_ 85 (mv_ 96),
 oq_ 97 (.ext 85 0),
 oq_ 98 (.ext 85 1),
 oq_ 99 (.nilck 89),
 oq_ 100 (.faddr 1 99),
 oq_ 101 (.iaddrA true 32 1 100 91),
 on_ (.store 1 101 97)]
def x61_18 : C_ := .seq x61_16 (.draw x61_17 [[], [0], [0, 1], [0, 1, 2], [], [4], [], [6], [], [], [6, 7, 8, 9], [6, 7, 8, 9, 10], [6, 7, 8, 9, 10, 11], [6, 7, 8, 9, 10, 11], [0, 1, 2, 3], [0, 1, 2, 3, 14], [0, 1, 2, 3, 4, 5, 6, 7, 8, 9, 10, 11, 12, 14, 15], [0, 1, 2, 3, 4, 5, 6, 7, 8, 9, 10, 11, 12, 14, 15, 16]])
def x61_19 : L_ := [oq_ 103 (mv_ 8),
 oq_ 104 (.bin .leq 103 (ci_ 44)),
 oq_ 102 (mv_ 104)]
def x61_20 : L_ := [oq_ 105 (mv_ 0),
 oq_ 106 (.load .agg 5 3),
 oc_ 107 76 [105, 106],
 oq_ 4 (mv_ 107)]
def x61_21 : L_ := [oq_ 109 (mv_ 8),
 oq_ 110 (.bin .leq 109 (ci_ 50)),
 oq_ 108 (mv_ 110)]
def x61_22 : L_ := [oq_ 111 (mv_ 8),
 oq_ 112 (mv_ 5),
 oq_ 113 (mv_ 0),
 oq_ 114 (.nilck 113),
 oq_ 115 (.faddr 0 114),
 oq_ 116 (.load .one 1 115),
 oq_ 117 (.faddr 3 3),
 oq_ 118 (.load (.int .i64) 1 117),
 oq_ 119 (.nilck 116),
 oq_ 120 (.faddr 1 119),
 oq_ 121 (.iaddrA true 32 1 120 118),
 oq_ 122 (.load (.int .u64) 1 121),
 oc_ 123 77 [111, 112, 122]]
def x61_23 : L_ := [oq_ 124 (mv_ 0),
 oq_ 125 (.nilck 124),
 oq_ 126 (.faddr 0 125),
 oq_ 127 (.load .one 1 126),
 oq_ 128 (.nilck 127),
 oq_ 129 (.faddr 33 128),
 oq_ 130 (.load (.int .u64) 1 129),
 oq_ 131 (mv_ 6),
 oq_ 132 (.bin .add 130 131),
 oq_ 7 (mv_ 132)]
def x61_24 : C_ := .cnd 123 (r_ x61_23) .skip
def x61_25 : C_ := .seq (.draw x61_22 [[], [], [], [2], [2, 3], [2, 3, 4], [], [6], [2, 3, 4, 5], [2, 3, 4, 5, 8], [2, 3, 4, 5, 6, 7, 8, 9], [2, 3, 4, 5, 6, 7, 8, 9, 10], [0, 1, 2, 3, 4, 5, 6, 7, 8, 9, 10, 11]]) x61_24
def x61_26 : L_ := [oq_ 134 (mv_ 8),
 oq_ 135 (.bin .eql 134 (ci_ 51)),
 oq_ 133 (mv_ 135)]
def x61_27 : L_ := [oq_ 136 (mv_ 0),
 oq_ 137 (.nilck 136),
 oq_ 138 (.faddr 0 137),
 oq_ 139 (.load .one 1 138),
 oq_ 140 (.faddr 1 3),
 oq_ 141 (.load (.int .i64) 1 140),
 oq_ 142 (mv_ 6),
 oq_ 143 (.bin .shl 142 (.const (.int .u64 12))),
 oq_ 144 (.nilck 139),
 oq_ 145 (.faddr 1 144),
 oq_ 146 (.iaddrA true 32 1 145 141),
 on_ (.store 1 146 143)]
def x61_28 : L_ := [oq_ 148 (mv_ 8),
 oq_ 149 (.bin .eql 148 (ci_ 52)),
 oq_ 147 (mv_ 149)]
def x61_29 : L_ := [oq_ 150 (mv_ 0),
 oq_ 151 (.nilck 150),
 oq_ 152 (.faddr 0 151),
 oq_ 153 (.load .one 1 152),
 oq_ 154 (.faddr 1 3),
 oq_ 155 (.load (.int .i64) 1 154),
 oq_ 156 (mv_ 6),
 oq_ 157 (.bin .shl 156 (.const (.int .u64 12))),
 oq_ 158 (mv_ 0),
 oq_ 159 (.nilck 158),
 oq_ 160 (.faddr 0 159),
 oq_ 161 (.load .one 1 160),
 oq_ 162 (.nilck 161),
 oq_ 163 (.faddr 33 162),
 oq_ 164 (.load (.int .u64) 1 163),
 oq_ 165 (.bin .add 157 164),
 oq_ 166 (.nilck 153),
 oq_ 167 (.faddr 1 166),
 oq_ 168 (.iaddrA true 32 1 167 155),
 on_ (.store 1 168 165)]
def x61_30 : L_ := [oq_ 170 (mv_ 8),
 oq_ 171 (.bin .eql 170 (ci_ 53)),
 oq_ 169 (mv_ 171)]
def x61_31 : L_ := [oq_ 172 (mv_ 0),
 oq_ 173 (.nilck 172),
 oq_ 174 (.faddr 0 173),
 oq_ 175 (.load .one 1 174),
 oq_ 176 (.faddr 1 3),
 oq_ 177 (.load (.int .i64) 1 176),
 oq_ 178 (mv_ 7),
 oq_ 179 (mv_ 0),
 oq_ 180 (.nilck 179),
 oq_ 181 (.faddr 0 180),
 oq_ 182 (.load .one 1 181),
 oq_ 183 (.nilck 182),
 oq_ 184 (.faddr 33 183),
 oq_ 185 (.load (.int .u64) 1 184),
 oq_ 186 (mv_ 6),
 oq_ 187 (.bin .add 185 186),
 oq_ 188 (.nilck 175),
 oq_ 189 (.faddr 1 188),
 oq_ 190 (.iaddrA true 32 1 189 177),
 on_ (.store 1 190 178),
 oq_ 7 (mv_ 187)]
def x61_32 : L_ := [oq_ 192 (mv_ 8),
 oq_ 193 (.bin .eql 192 (ci_ 54)),
 oq_ 191 (mv_ 193)]
def x61_33 : L_ := [oq_ 194 (mv_ 0),
 oq_ 195 (.nilck 194),
 oq_ 196 (.faddr 0 195),
 oq_ 197 (.load .one 1 196),
 oq_ 198 (.faddr 1 3),
 oq_ 199 (.load (.int .i64) 1 198),
 oq_ 200 (mv_ 7),
 oq_ 201 (mv_ 5),
 oq_ 202 (mv_ 6),
 oq_ 203 (.bin .add 201 202),
 oq_ 204 (.bin .andNot 203 (.const (.int .u64 1))),
 oq_ 205 (.nilck 197),
 oq_ 206 (.faddr 1 205),
 oq_ 207 (.iaddrA true 32 1 206 199),
 on_ (.store 1 207 200),
 oq_ 7 (mv_ 204)]
def x61_34 : L_ := [oq_ 42 (mv_ 0),
 oc_ 43 78 [42],
 oq_ 4 (mv_ 43)]
def x61_35 : C_ := .cnd 191 (.draw x61_33 [[], [0], [0, 1], [0, 1, 2], [], [4], [], [], [], [7, 8], [7, 8, 9], [0, 1, 2, 3], [0, 1, 2, 3, 11], [0, 1, 2, 3, 4, 5, 6, 11, 12], [0, 1, 2, 3, 4, 5, 6, 11, 12, 13], [0, 1, 2, 3, 4, 5, 6, 7, 8, 9, 10, 11, 12, 13, 14]]) (r_ x61_34)
def x61_36 : C_ := .seq (r_ x61_32) x61_35
def x61_37 : C_ := .cnd 169 (.draw x61_31 [[], [0], [0, 1], [0, 1, 2], [], [4], [], [], [7], [7, 8], [7, 8, 9], [7, 8, 9, 10], [7, 8, 9, 10, 11], [7, 8, 9, 10, 11, 12], [], [7, 8, 9, 10, 11, 12, 13, 14], [0, 1, 2, 3], [0, 1, 2, 3, 16], [0, 1, 2, 3, 4, 5, 6, 7, 8, 9, 10, 11, 12, 13, 16, 17], [0, 1, 2, 3, 4, 5, 6, 7, 8, 9, 10, 11, 12, 13, 16, 17, 18], [0, 1, 2, 3, 4, 5, 6, 7, 8, 9, 10, 11, 12, 13, 14, 15, 16, 17, 18, 19]]) x61_36
def x61_38 : C_ := .seq (r_ x61_30) x61_37
def x61_39 : C_ := .cnd 147 (.draw x61_29 [[], [0], [0, 1], [0, 1, 2], [], [4], [], [6], [], [8], [8, 9], [8, 9, 10], [8, 9, 10, 11], [8, 9, 10, 11, 12], [8, 9, 10, 11, 12, 13], [6, 7, 8, 9, 10, 11, 12, 13, 14], [0, 1, 2, 3], [0, 1, 2, 3, 16], [0, 1, 2, 3, 4, 5, 6, 7, 8, 9, 10, 11, 12, 13, 14, 15, 16, 17], [0, 1, 2, 3, 4, 5, 6, 7, 8, 9, 10, 11, 12, 13, 14, 15, 16, 17, 18]]) x61_38
def x61_40 : C_ := .seq (r_ x61_28) x61_39
def x61_41 : C_ := .cnd 133 (.draw x61_27 [[], [0], [0, 1], [0, 1, 2], [], [4], [], [6], [0, 1, 2, 3], [0, 1, 2, 3, 8], [0, 1, 2, 3, 4, 5, 6, 7, 8, 9], [0, 1, 2, 3, 4, 5, 6, 7, 8, 9, 10]]) x61_40
def x61_42 : C_ := .seq (r_ x61_26) x61_41
def x61_43 : C_ := .cnd 108 x61_25 x61_42
def x61_44 : C_ := .seq (r_ x61_21) x61_43
def x61_45 : C_ := .cnd 102 (r_ x61_20) x61_44
def x61_46 : C_ := .seq (r_ x61_19) x61_45
def x61_47 : C_ := .cnd 72 x61_18 x61_46
def x61_48 : C_ := .seq (r_ x61_12) x61_47
def x61_49 : C_ := .cnd 44 (.draw x61_11 [[], [0], [0, 1], [0, 1, 2], [], [4], [], [], [], [8], [8, 9], [8, 9, 10], [], [12], [8, 9, 10, 11], [8, 9, 10, 11, 14], [8, 9, 10, 11, 12, 13, 14, 15], [8, 9, 10, 11, 12, 13, 14, 15, 16], [6, 7, 8, 9, 10, 11, 12, 13, 14, 15, 16, 17], [6, 7, 8, 9, 10, 11, 12, 13, 14, 15, 16, 17, 18], [6, 7, 8, 9, 10, 11, 12, 13, 14, 15, 16, 17, 18, 19], [6, 7, 8, 9, 10, 11, 12, 13, 14, 15, 16, 17, 18, 19], [0, 1, 2, 3], [0, 1, 2, 3, 22], [0, 1, 2, 3, 4, 5, 6, 7, 8, 9, 10, 11, 12, 13, 14, 15, 16, 17, 18, 19, 20, 22, 23], [0, 1, 2, 3, 4, 5, 6, 7, 8, 9, 10, 11, 12, 13, 14, 15, 16, 17, 18, 19, 20, 22, 23, 24]]) x61_48
def x61_50 : C_ := .seq (r_ x61_10) x61_49
def x61_51 : C_ := .block 0 x61_50
def x61_52 : C_ := .seq (r_ x61_9) x61_51
def x61_53 : L_ := [oq_ 208 (mv_ 4)]
def x61_54 : L_ := [oq_ 209 (mv_ 0),
 oq_ 210 (.nilck 209),
 oq_ 211 (.faddr 0 210),
 oq_ 212 (.load .one 1 211),
 oq_ 213 (.nilck 212),
 oq_ 214 (.faddr 1 213),
 oq_ 215 (.iaddrA false 32 1 214 (ci_ 0)),
 on_ (.store 1 215 (.const (.int .u64 0)))]
def x61_55 : L_ := [oq_ 216 (mv_ 0),
 oq_ 217 (.nilck 216),
 oq_ 218 (.faddr 0 217),
 oq_ 219 (.load .one 1 218),
 oq_ 220 (mv_ 7),
 oq_ 221 (.nilck 219),
 oq_ 222 (.faddr 33 221),
 on_ (.store 1 222 220)]
def x61_56 : C_ := .seq (r_ x61_54) (r_ x61_55)
def x61_57 : C_ := .cnd 208 x61_56 .skip
def x61_58 : C_ := .seq (r_ x61_53) x61_57
def x61_59 : L_ := [oq_ 223 (mv_ 4),
 oq_ 2 (mv_ 223)]
def x61_60 : C_ := .seq (r_ x61_59) .ret
def x61_61 : C_ := .seq x61_58 x61_60
def x61_62 : C_ := .seq x61_52 x61_61
def x61_63 : C_ := .seq (r_ x61_8) x61_62
def x61_64 : C_ := .seq (.draw x61_7 [[], [0], [0, 1], [0, 1, 2], [], [4], [0, 1, 2, 3], [0, 1, 2, 3, 6], [0, 1, 2, 3, 4, 5, 6, 7], [0, 1, 2, 3, 4, 5, 6, 7, 8], [], [10], [10, 11], [0, 1, 2, 3, 4, 5, 6, 7, 8, 9, 10, 11, 12], [0, 1, 2, 3, 4, 5, 6, 7, 8, 9, 10, 11, 12, 13]]) x61_63
def x61_65 : C_ := .seq x61_6 x61_64
def x61_66 : C_ := .seq (r_ x61_1) x61_65
def x61_67 : C_ := .seq (r_ x61_0) x61_66
def x61 : C_ := x61_67
theorem fx61 : fnx Try.prog 61 = some (224, [(2, none)], x61) := by kernel_rfl
def x71_0 : L_ := [oq_ 2 (.mv (ci_ 0)),
 oq_ 3 (.mv (ci_ 0))]
def x71_1 : L_ := [oc_ 4 43 [],
 oq_ 5 (mv_ 0),
 oq_ 6 (.lookup 3 104 (.int .i64) (.agg #[(.int .u8 0), (.int .u32 0), (.int .u32 0), (.int .u32 0)]) false 4 5),
 oq_ 7 (.field (.int .u8) 0 1 6),
 oc_ 8 44 [7],
 oq_ 9 (.ext 8 0),
 oq_ 10 (.ext 8 1),
 oq_ 2 (mv_ 9),
 oq_ 3 (mv_ 10)]
def x71_2 : C_ := .seq (r_ x71_1) .ret
def x71_3 : C_ := .seq (r_ x71_0) x71_2
def x71 : C_ := x71_3
theorem fx71 : fnx Try.prog 71 = some (11, [(2, none), (3, none)], x71) := by kernel_rfl
def x72_0 : L_ := [oq_ 2 (.new (zs_ .i64 5)),
 oq_ 3 (.mv (.const (.bool false)))]
def x72_1 : L_ := [oq_ 11 (mv_ 0),
 oq_ 12 (mv_ 0),
 oq_ 13 (.nilck 12),
 oq_ 14 (.faddr 33 13),
 oq_ 15 (.load (.int .u64) 1 14),
 oc_ 16 83 [11, 15, (ci_ 4)],
 oq_ 10 (mv_ 16),
 oq_ 17 (.ext 10 0),
 oq_ 18 (.ext 10 1),
 oq_ 4 (mv_ 17),
 oq_ 5 (mv_ 18)]
def x72_2 : L_ := [oq_ 19 (mv_ 5),
 oq_ 20 (.un .not 19)]
def x72_3 : L_ := [oq_ 21 (.build (zs_ .i64 5) []),
 on_ (.store 5 2 21),
 oq_ 3 (.mv (.const (.bool false)))]
def x72_4 : C_ := .seq (r_ x72_3) .ret
def x72_5 : C_ := .cnd 20 x72_4 .skip
def x72_6 : C_ := .seq (r_ x72_2) x72_5
def x72_7 : L_ := [oq_ 22 (mv_ 4),
 oc_ 23 84 [22],
 oq_ 24 (.conv .u32 23),
 oq_ 6 (mv_ 24)]
def x72_8 : L_ := [oq_ 26 (mv_ 0),
 oq_ 27 (.nilck 26),
 oq_ 28 (.faddr 36 27),
 oq_ 29 (.load .one 1 28),
 oq_ 30 (mv_ 6),
 oq_ 31 (.lookup 35 26 (.int .u32) (.agg #[(.int .i64 0), (.int .i64 0), (.int .i64 0), (.int .i64 0), (.int .i64 0)]) true 29 30),
 oq_ 25 (mv_ 31),
 oq_ 32 (.ext 25 0),
 oq_ 33 (.ext 25 1),
 oq_ 7 (.new (zs_ .i64 5)),
 on_ (.store 5 7 32),
 oq_ 8 (mv_ 33)]
def x72_9 : L_ := [oq_ 34 (mv_ 8),
 oq_ 35 (.un .not 34)]
def x72_10 : L_ := [oq_ 9 (.mv (ci_ 0))]
def x72_11 : L_ := [oq_ 37 (mv_ 6),
 oc_ 38 20 [37],
 oq_ 36 (mv_ 38),
 oq_ 39 (.ext 36 0),
 oq_ 40 (.ext 36 1),
 on_ (.store 5 7 39),
 oq_ 9 (mv_ 40)]
def x72_12 : L_ := [oq_ 41 (mv_ 9),
 oq_ 42 (.bin .neq 41 (ci_ 0))]
def x72_13 : L_ := [oq_ 43 (.load .agg 5 7),
 on_ (.store 5 2 43),
 oq_ 3 (.mv (.const (.bool false)))]
def x72_14 : C_ := .seq (r_ x72_13) .ret
def x72_15 : C_ := .cnd 42 x72_14 .skip
def x72_16 : C_ := .seq (r_ x72_12) x72_15
def x72_17 : C_ := .seq (r_ x72_11) x72_16
def x72_18 : L_ := [oq_ 44 (mv_ 0),
 oq_ 45 (.nilck 44),
 oq_ 46 (.faddr 36 45),
 oq_ 47 (.load .one 1 46),
 oq_ 48 (mv_ 6),
 oq_ 49 (.load .agg 5 7),
 on_ (.mapupd 35 26 (.int .u32) 47 48 49)]
def x72_19 : C_ := .seq x72_17 (.draw x72_18 [[], [0], [0, 1], [0, 1, 2], [], [], [0, 1, 2, 3, 4, 5]])
def x72_20 : C_ := .seq (r_ x72_10) x72_19
def x72_21 : C_ := .cnd 35 x72_20 .skip
def x72_22 : C_ := .seq (r_ x72_9) x72_21
def x72_23 : L_ := [oq_ 50 (.load .agg 5 7),
 on_ (.store 5 2 50),
 oq_ 3 (.mv (.const (.bool true)))]
def x72_24 : C_ := .seq (r_ x72_23) .ret
def x72_25 : C_ := .seq x72_22 x72_24
def x72_26 : C_ := .seq (r_ x72_8) x72_25
def x72_27 : C_ := .seq (r_ x72_7) x72_26
def x72_28 : C_ := .seq x72_6 x72_27
def x72_29 : C_ := .seq (r_ x72_1) x72_28
def x72_30 : C_ := .seq (r_ x72_0) x72_29
def x72 : C_ := x72_30
theorem fx72 : fnx Try.prog 72 = some (51, [(2, (some (.agg, 5))), (3, none)], x72) := by kernel_rfl
def x73_0 : L_ := [oq_ 2 (.mv (.const (.int .u64 0)))]
def x73_1 : L_ := [oq_ 3 (mv_ 0),
 oq_ 4 (.conv .u64 3),
 oq_ 2 (mv_ 4)]
def x73_2 : C_ := .seq (r_ x73_1) .ret
def x73_3 : C_ := .seq (r_ x73_0) x73_2
def x73 : C_ := x73_3
theorem fx73 : fnx Try.prog 73 = some (5, [(2, none)], x73) := by kernel_rfl
def x74_0 : L_ := [oq_ 6 (.mv (.const (.int .u64 0))),
 oq_ 7 (.mv (ci_ 0))]
def x74_1 : L_ := [oq_ 18 (mv_ 0),
 oq_ 19 (mv_ 1),
 oq_ 20 (mv_ 2),
 oc_ 21 85 [18, 19, 20],
 oq_ 17 (mv_ 21),
 oq_ 22 (.ext 17 0),
 oq_ 23 (.ext 17 1),
 oq_ 8 (mv_ 22),
 oq_ 9 (mv_ 23)]
def x74_2 : L_ := [oq_ 24 (mv_ 9)]
def x74_3 : L_ := [oq_ 25 (mv_ 8),
 oq_ 6 (mv_ 25),
 oq_ 7 (.mv (ci_ 0))]
def x74_4 : C_ := .seq (r_ x74_3) .ret
def x74_5 : C_ := .cnd 24 x74_4 .skip
def x74_6 : C_ := .seq (r_ x74_2) x74_5
def x74_7 : C_ := .seq (r_ x74_1) x74_6
def x74_8 : L_ := [oq_ 27 (mv_ 0),
 oq_ 28 (mv_ 1),
 oq_ 29 (mv_ 2),
 oc_ 30 86 [27, 28, 29],
 oq_ 26 (mv_ 30),
 oq_ 31 (.ext 26 0),
 oq_ 32 (.ext 26 1),
 oq_ 10 (mv_ 31),
 oq_ 11 (mv_ 32)]
def x74_9 : L_ := [oq_ 33 (mv_ 11)]
def x74_10 : L_ := [oq_ 34 (mv_ 10),
 oq_ 6 (mv_ 34),
 oq_ 7 (.mv (ci_ 0))]
def x74_11 : C_ := .seq (r_ x74_10) .ret
def x74_12 : C_ := .cnd 33 x74_11 .skip
def x74_13 : C_ := .seq (r_ x74_9) x74_12
def x74_14 : C_ := .seq (r_ x74_8) x74_13
def x74_15 : L_ := [oq_ 36 (mv_ 0),
 oc_ 37 87 [36],
 oq_ 35 (mv_ 37),
 oq_ 38 (.ext 35 0),
 oq_ 39 (.ext 35 1),
 oq_ 40 (.ext 35 2),
 oq_ 12 (mv_ 38),
 oq_ 13 (mv_ 39),
 oq_ 14 (mv_ 40)]
def x74_16 : L_ := [oq_ 41 (mv_ 14),
 oq_ 42 (.un .not 41)]
def x74_17 : L_ := [oq_ 6 (.mv (.const (.int .u64 0))),
 oq_ 7 (.mv (ci_ 1))]
def x74_18 : C_ := .seq (r_ x74_17) .ret
def x74_19 : C_ := .cnd 42 x74_18 .skip
def x74_20 : C_ := .seq (r_ x74_16) x74_19
def x74_21 : L_ := [oq_ 44 (mv_ 1),
 oq_ 45 (mv_ 13),
 oc_ 46 36 [44, (ci_ 32), 45],
 oq_ 43 (mv_ 46),
 oq_ 47 (.ext 43 0),
 oq_ 48 (.ext 43 1),
 oq_ 1 (mv_ 47)]
def x74_22 : L_ := [oq_ 50 (mv_ 2),
 oq_ 51 (mv_ 13),
 oc_ 52 36 [50, (ci_ 32), 51],
 oq_ 49 (mv_ 52),
 oq_ 53 (.ext 49 0),
 oq_ 54 (.ext 49 1),
 oq_ 2 (mv_ 53)]
def x74_23 : L_ := [oq_ 55 (mv_ 12),
 oq_ 56 (.bin .eql 55 (ci_ 3)),
 oq_ 57 (mv_ 56),
 og_ 58 57 false (mv_ 12),
 og_ 59 57 false (.bin .eql 58 (ci_ 7)),
 ⟨(some 60), .pick 57 (.const (.bool true)) 59, none⟩,
 oq_ 61 (mv_ 60),
 og_ 62 61 false (mv_ 12),
 og_ 63 61 false (.bin .eql 62 (ci_ 8)),
 ⟨(some 64), .pick 61 (.const (.bool true)) 63, none⟩]
def x74_24 : L_ := [oq_ 65 (mv_ 2),
 oq_ 66 (.bin .and 65 (.const (.int .u64 31))),
 oq_ 2 (mv_ 66)]
def x74_25 : C_ := .cnd 64 (r_ x74_24) .skip
def x74_26 : C_ := .seq (r_ x74_23) x74_25
def x74_27 : L_ := [oq_ 68 (mv_ 12),
 oq_ 69 (mv_ 1),
 oq_ 70 (mv_ 2),
 oc_ 71 74 [68, 69, 70],
 oq_ 67 (mv_ 71),
 oq_ 72 (.ext 67 0),
 oq_ 73 (.ext 67 1),
 oq_ 15 (mv_ 72),
 oq_ 16 (mv_ 73)]
def x74_28 : L_ := [oq_ 75 (mv_ 15),
 oc_ 76 36 [75, (ci_ 32), (.const (.bool true))],
 oq_ 74 (mv_ 76),
 oq_ 77 (.ext 74 0),
 oq_ 78 (.ext 74 1),
 oq_ 15 (mv_ 77)]
def x74_29 : L_ := [oq_ 79 (mv_ 15),
 oq_ 80 (mv_ 16),
 oq_ 6 (mv_ 79),
 oq_ 7 (mv_ 80)]
def x74_30 : C_ := .seq (r_ x74_29) .ret
def x74_31 : C_ := .seq (r_ x74_28) x74_30
def x74_32 : C_ := .seq (r_ x74_27) x74_31
def x74_33 : C_ := .seq x74_26 x74_32
def x74_34 : C_ := .seq (r_ x74_22) x74_33
def x74_35 : C_ := .seq (r_ x74_21) x74_34
def x74_36 : C_ := .seq x74_20 x74_35
def x74_37 : C_ := .seq (r_ x74_15) x74_36
def x74_38 : C_ := .seq x74_14 x74_37
def x74_39 : C_ := .seq x74_7 x74_38
def x74_40 : C_ := .seq (r_ x74_0) x74_39
def x74 : C_ := x74_40
theorem fx74 : fnx Try.prog 74 = some (81, [(6, none), (7, none)], x74) := by kernel_rfl
def x75_0 : L_ := [oq_ 2 (.mv (ci_ 0))]
def x75_1 : L_ := [oq_ 3 (.build (zs_ .i64 10) [(0, 1, (ci_ 1)), (1, 1, (ci_ 4)), (2, 1, (ci_ 5)), (3, 1, (ci_ 6)), (4, 1, (ci_ 9)), (5, 1, (ci_ 10)), (6, 1, (ci_ 3)), (7, 1, (ci_ 7)), (8, 1, (ci_ 8)), (9, 1, (ci_ 18))]),
 oq_ 4 (mv_ 0),
 oq_ 5 (.bin .sub 4 (ci_ 28)),
 oq_ 6 (.idxA 10 1 (.int .i64) 3 5),
 oq_ 2 (mv_ 6)]
def x75_2 : C_ := .seq (r_ x75_1) .ret
def x75_3 : C_ := .seq (r_ x75_0) x75_2
def x75 : C_ := x75_3
theorem fx75 : fnx Try.prog 75 = some (7, [(2, none)], x75) := by kernel_rfl
def x76_0 : L_ := [oq_ 3 (.box 1),
 oq_ 4 (.mv (.const (.bool false)))]
def x76_1 : L_ := [oq_ 11 (.faddr 0 3),
 oq_ 12 (.load (.int .i64) 1 11),
 oc_ 13 88 [12],
 oq_ 5 (mv_ 13)]
def x76_2 : L_ := [oq_ 14 (mv_ 0),
 oq_ 15 (.nilck 14),
 oq_ 16 (.faddr 0 15),
 oq_ 17 (.load .one 1 16),
 oq_ 18 (.faddr 2 3),
 oq_ 19 (.load (.int .i64) 1 18),
 oq_ 20 (.nilck 17),
 oq_ 21 (.faddr 1 20),
 oq_ 22 (.iaddrA true 32 1 21 19),
 oq_ 23 (.load (.int .u64) 1 22),
 oq_ 24 (.faddr 4 3),
 oq_ 25 (.load (.int .i64) 1 24),
 oc_ 26 73 [25],
 oq_ 27 (.bin .add 23 26),
 oq_ 6 (mv_ 27)]
def x76_3 : L_ := [oq_ 29 (mv_ 0),
 oq_ 30 (.nilck 29),
 oq_ 31 (.faddr 0 30),
 oq_ 32 (.load .one 1 31),
 oq_ 33 (mv_ 6),
 oq_ 34 (mv_ 5),
 oc_ 35 83 [32, 33, 34],
 oq_ 28 (mv_ 35),
 oq_ 36 (.ext 28 0),
 oq_ 37 (.ext 28 1),
 oq_ 7 (mv_ 36),
 oq_ 8 (mv_ 37)]
def x76_4 : L_ := [oq_ 38 (mv_ 8),
 oq_ 39 (.un .not 38)]
def x76_5 : L_ := [oq_ 4 (.mv (.const (.bool false)))]
def x76_6 : C_ := .seq (r_ x76_5) .ret
def x76_7 : C_ := .cnd 39 x76_6 .skip
def x76_8 : C_ := .seq (r_ x76_4) x76_7
def x76_9 : L_ := [oq_ 40 (.faddr 0 3),
 oq_ 41 (.load (.int .i64) 1 40),
 oq_ 42 (.bin .geq 41 (ci_ 42)),
 oq_ 9 (mv_ 42)]
def x76_10 : L_ := [oq_ 43 (mv_ 0),
 oq_ 44 (.nilck 43),
 oq_ 45 (.faddr 4 44),
 oq_ 46 (.load .bool 1 45)]
def x76_11 : L_ := [oq_ 47 (mv_ 0),
 oq_ 48 (mv_ 0),
 oq_ 49 (.nilck 48),
 oq_ 50 (.faddr 5 49),
 oq_ 51 (.load .one 1 50),
 oq_ 52 (mv_ 0),
 oq_ 53 (.nilck 52),
 oq_ 54 (.faddr 0 53),
 oq_ 55 (.load .one 1 54),
 oq_ 56 (.nilck 55),
 oq_ 57 (.faddr 33 56),
 oq_ 58 (.load (.int .u64) 1 57),
 oq_ 59 (mv_ 6),
 oq_ 60 (mv_ 5),
 oq_ 61 (mv_ 9),
 oq_ 62 (.build [(.int .u64 0), (.int .u64 0), (.int .i64 0), (.bool false)] [(0, 1, 58), (1, 1, 59), (2, 1, 60), (3, 1, 61)]),
 oq_ 63 (.mkslice [(.int .u64 0), (.int .u64 0), (.int .i64 0), (.bool false)] 1 [(0, 62)]),
 oq_ 64 (.app 4 32 51 63),
 oq_ 65 (.nilck 47),
 oq_ 66 (.faddr 5 65),
 on_ (.store 1 66 64)]
def x76_12 : C_ := .cnd 46 (.draw x76_11 [[], [], [1], [1, 2], [1, 2, 3], [], [5], [5, 6], [5, 6, 7], [5, 6, 7, 8], [5, 6, 7, 8, 9], [5, 6, 7, 8, 9, 10], [], [], [], [5, 6, 7, 8, 9, 10, 11, 12, 13, 14], [5, 6, 7, 8, 9, 10, 11, 12, 13, 14, 15], [1, 2, 3, 4, 5, 6, 7, 8, 9, 10, 11, 12, 13, 14, 15, 16], [0, 1, 2, 3, 4, 5, 6, 7, 8, 9, 10, 11, 12, 13, 14, 15, 16, 17], [0, 1, 2, 3, 4, 5, 6, 7, 8, 9, 10, 11, 12, 13, 14, 15, 16, 17, 18], [0, 1, 2, 3, 4, 5, 6, 7, 8, 9, 10, 11, 12, 13, 14, 15, 16, 17, 18, 19]]) .skip
def x76_13 : C_ := .seq (r_ x76_10) x76_12
def x76_14 : L_ := [oq_ 67 (mv_ 9)]
def x76_15 : L_ := [oq_ 68 (mv_ 7),
 oq_ 69 (.lenS 68),
 oq_ 70 (.mv (ci_ 0))]
def x76_16 : L_ := [oq_ 71 (.bin .lss 70 69)]
def x76_17 : C_ := .cnd 71 .skip (.exit 0)
def x76_18 : L_ := [oq_ 72 (mv_ 70),
 oq_ 10 (mv_ 72)]
def x76_19 : L_ := [oq_ 73 (mv_ 7),
 oq_ 74 (mv_ 10),
 oq_ 75 (mv_ 0),
 oq_ 76 (.nilck 75),
 oq_ 77 (.faddr 0 76),
 oq_ 78 (.load .one 1 77),
 oq_ 79 (.faddr 3 3),
 oq_ 80 (.load (.int .i64) 1 79),
 oq_ 81 (.nilck 78),
 oq_ 82 (.faddr 1 81),
 oq_ 83 (.iaddrA true 32 1 82 80),
 oq_ 84 (.load (.int .u64) 1 83),
 oq_ 85 (mv_ 10),
 oq_ 86 (.bin .mul (ci_ 8) 85),
 oq_ 87 (.bin .shr 84 86),
 oq_ 88 (.conv .u8 87),
 oq_ 89 (.iaddrS 1 73 74),
 on_ (.store 1 89 88)]
def x76_20 : C_ := .seq (r_ x76_18) (.draw x76_19 [[], [], [], [2], [2, 3], [2, 3, 4], [], [6], [2, 3, 4, 5], [2, 3, 4, 5, 8], [2, 3, 4, 5, 6, 7, 8, 9], [2, 3, 4, 5, 6, 7, 8, 9, 10], [], [12], [2, 3, 4, 5, 6, 7, 8, 9, 10, 11, 12, 13], [2, 3, 4, 5, 6, 7, 8, 9, 10, 11, 12, 13, 14], [0, 1, 2, 3, 4, 5, 6, 7, 8, 9, 10, 11, 12, 13, 14, 15], [0, 1, 2, 3, 4, 5, 6, 7, 8, 9, 10, 11, 12, 13, 14, 15, 16]])
def x76_21 : C_ := .block 1 x76_20
def x76_22 : L_ := [oq_ 90 (.bin .add 70 (ci_ 1)),
 oq_ 70 (mv_ 90)]
def x76_23 : C_ := .seq x76_21 (r_ x76_22)
def x76_24 : C_ := .seq x76_17 x76_23
def x76_25 : C_ := .seq (r_ x76_16) x76_24
def x76_26 : C_ := .loop x76_25
def x76_27 : C_ := .block 0 x76_26
def x76_28 : C_ := .seq (r_ x76_15) x76_27
def x76_29 : L_ := [oq_ 4 (.mv (.const (.bool true)))]
def x76_30 : C_ := .seq (r_ x76_29) .ret
def x76_31 : C_ := .seq x76_28 x76_30
def x76_32 : C_ := .cnd 67 x76_31 .skip
def x76_33 : C_ := .seq (r_ x76_14) x76_32
def x76_34 : L_ := [oq_ 92 (mv_ 0),
 oq_ 93 (.nilck 92),
 oq_ 94 (.faddr 0 93),
 oq_ 95 (.load .one 1 94),
 oq_ 96 (.faddr 1 3),
 oq_ 97 (.load (.int .i64) 1 96),
 oq_ 98 (mv_ 7),
 oc_ 99 84 [98],
 oq_ 100 (mv_ 5),
 oq_ 101 (.bin .mul (ci_ 8) 100),
 oq_ 102 (.faddr 0 3),
 oq_ 103 (.load (.int .i64) 1 102),
 oq_ 104 (.bin .neq 103 (ci_ 39)),
 oc_ 105 36 [99, 101, 104],
 oq_ 91 (mv_ 105),
 oq_ 106 (.ext 91 0),
 oq_ 107 (.ext 91 1),
 oq_ 108 (.nilck 95),
 oq_ 109 (.faddr 1 108),
 oq_ 110 (.iaddrA true 32 1 109 97),
 on_ (.store 1 110 106)]
def x76_35 : L_ := [oq_ 4 (.mv (.const (.bool true)))]
def x76_36 : C_ := .seq (r_ x76_35) .ret
def x76_37 : C_ := .seq (.draw x76_34 [[], [0], [0, 1], [0, 1, 2], [], [4], [], [6], [], [8], [], [10], [10, 11], [6, 7, 8, 9, 10, 11, 12], [6, 7, 8, 9, 10, 11, 12, 13], [6, 7, 8, 9, 10, 11, 12, 13, 14], [6, 7, 8, 9, 10, 11, 12, 13, 14], [0, 1, 2, 3], [0, 1, 2, 3, 17], [0, 1, 2, 3, 4, 5, 6, 7, 8, 9, 10, 11, 12, 13, 14, 15, 17, 18], [0, 1, 2, 3, 4, 5, 6, 7, 8, 9, 10, 11, 12, 13, 14, 15, 17, 18, 19]]) x76_36
def x76_38 : C_ := .seq x76_33 x76_37
def x76_39 : C_ := .seq x76_13 x76_38
def x76_40 : C_ := .seq (r_ x76_9) x76_39
def x76_41 : C_ := .seq x76_8 x76_40
def x76_42 : C_ := .seq (r_ x76_3) x76_41
def x76_43 : C_ := .seq (.draw x76_2 [[], [0], [0, 1], [0, 1, 2], [], [4], [0, 1, 2, 3], [0, 1, 2, 3, 6], [0, 1, 2, 3, 4, 5, 6, 7], [0, 1, 2, 3, 4, 5, 6, 7, 8], [], [10], [10, 11], [0, 1, 2, 3, 4, 5, 6, 7, 8, 9, 10, 11, 12], [0, 1, 2, 3, 4, 5, 6, 7, 8, 9, 10, 11, 12, 13]]) x76_42
def x76_44 : C_ := .seq (r_ x76_1) x76_43
def x76_45 : C_ := .seq (r_ x76_0) x76_44
def x76 : C_ := x76_45
theorem fx76 : fnx Try.prog 76 = some (111, [(4, none)], x76) := by kernel_rfl
def x77_0 : L_ := [oq_ 6 (.mv (.const (.bool false)))]
def x77_1 : L_ := [oq_ 7 (mv_ 0)]
def x77_2 : L_ := [oq_ 9 (.bin .eql 7 (ci_ 45)),
 oq_ 8 (mv_ 9)]
def x77_3 : L_ := [oq_ 10 (.bin .eql 7 (ci_ 46)),
 oq_ 8 (mv_ 10)]
def x77_4 : C_ := .cnd 8 .skip (r_ x77_3)
def x77_5 : C_ := .seq (r_ x77_2) x77_4
def x77_6 : L_ := [oq_ 11 (mv_ 1),
 oq_ 12 (mv_ 2),
 oq_ 13 (.bin .eql 11 12),
 oq_ 14 (mv_ 0),
 oq_ 15 (.bin .eql 14 (ci_ 45)),
 oq_ 16 (.eqb false 13 15),
 oq_ 6 (mv_ 16)]
def x77_7 : C_ := .seq (r_ x77_6) .ret
def x77_8 : L_ := [oq_ 18 (.bin .eql 7 (ci_ 47)),
 oq_ 17 (mv_ 18)]
def x77_9 : L_ := [oq_ 19 (.bin .eql 7 (ci_ 48)),
 oq_ 17 (mv_ 19)]
def x77_10 : C_ := .cnd 17 .skip (r_ x77_9)
def x77_11 : C_ := .seq (r_ x77_8) x77_10
def x77_12 : L_ := [oq_ 20 (mv_ 1),
 oq_ 21 (.conv .i64 20),
 oq_ 22 (mv_ 2),
 oq_ 23 (.conv .i64 22),
 oq_ 24 (.bin .lss 21 23),
 oq_ 25 (mv_ 0),
 oq_ 26 (.bin .eql 25 (ci_ 47)),
 oq_ 27 (.eqb false 24 26),
 oq_ 6 (mv_ 27)]
def x77_13 : C_ := .seq (r_ x77_12) .ret
def x77_14 : C_ := .cnd 17 x77_13 .skip
def x77_15 : C_ := .seq x77_11 x77_14
def x77_16 : C_ := .cnd 8 x77_7 x77_15
def x77_17 : C_ := .seq x77_5 x77_16
def x77_18 : C_ := .block 0 x77_17
def x77_19 : C_ := .seq (r_ x77_1) x77_18
def x77_20 : L_ := [oq_ 28 (mv_ 1),
 oq_ 29 (mv_ 2),
 oq_ 30 (.bin .lss 28 29),
 oq_ 31 (mv_ 0),
 oq_ 32 (.bin .eql 31 (ci_ 49)),
 oq_ 33 (.eqb false 30 32),
 oq_ 6 (mv_ 33)]
def x77_21 : C_ := .seq (r_ x77_20) .ret
def x77_22 : C_ := .seq x77_19 x77_21
def x77_23 : C_ := .seq (r_ x77_0) x77_22
def x77 : C_ := x77_23
theorem fx77 : fnx Try.prog 77 = some (34, [(6, none)], x77) := by kernel_rfl
def x78_0 : L_ := [oq_ 2 (.mv (.const (.bool false)))]
def x78_1 : L_ := [oq_ 3 (mv_ 0),
 oq_ 4 (.nilck 3),
 oq_ 5 (.faddr 0 4),
 oq_ 6 (.load .one 1 5),
 oq_ 7 (.nilck 6),
 oq_ 8 (.faddr 1 7),
 oq_ 9 (.iaddrA false 32 1 8 (ci_ 17)),
 oq_ 10 (.load (.int .u64) 1 9)]
def x78_2 : L_ := [oq_ 12 (.bin .eql 10 (.const (.int .u64 1))),
 oq_ 11 (mv_ 12)]
def x78_3 : L_ := [oq_ 13 (mv_ 0),
 oq_ 14 (mv_ 0),
 oq_ 15 (.nilck 14),
 oq_ 16 (.faddr 2 15),
 oq_ 17 (.load .one 1 16),
 oq_ 18 (mv_ 0),
 oq_ 19 (.nilck 18),
 oq_ 20 (.faddr 0 19),
 oq_ 21 (.load .one 1 20),
 oq_ 22 (.nilck 21),
 oq_ 23 (.faddr 1 22),
 oq_ 24 (.iaddrA false 32 1 23 (ci_ 10)),
 oq_ 25 (.load (.int .u64) 1 24),
 oq_ 26 (.conv .u8 25),
 oq_ 27 (.mkslice [(.int .u8 0)] 1 [(0, 26)]),
 oq_ 28 (.app 1 1 17 27),
 oq_ 29 (.nilck 13),
 oq_ 30 (.faddr 2 29),
 on_ (.store 1 30 28)]
def x78_4 : L_ := [oq_ 32 (.bin .eql 10 (.const (.int .u64 2))),
 oq_ 31 (mv_ 32)]
def x78_5 : L_ := [oq_ 33 (mv_ 0),
 oq_ 34 (.nilck 33),
 oq_ 35 (.faddr 0 34),
 oq_ 36 (.load .one 1 35),
 oq_ 37 (.nilck 36),
 oq_ 38 (.faddr 1 37),
 oq_ 39 (.iaddrA false 32 1 38 (ci_ 10)),
 on_ (.store 1 39 (.const (.int .u64 18446744073709551615)))]
def x78_6 : L_ := [oq_ 40 (mv_ 0),
 oq_ 41 (.nilck 40),
 oq_ 42 (.faddr 1 41),
 oq_ 43 (.load .one 1 42),
 oq_ 44 (.lenS 43),
 oq_ 45 (.bin .gtr 44 (ci_ 0))]
def x78_7 : L_ := [oq_ 46 (mv_ 0),
 oq_ 47 (.nilck 46),
 oq_ 48 (.faddr 0 47),
 oq_ 49 (.load .one 1 48),
 oq_ 50 (mv_ 0),
 oq_ 51 (mv_ 0),
 oq_ 52 (.nilck 51),
 oq_ 53 (.faddr 1 52),
 oq_ 54 (.load .one 1 53),
 oq_ 55 (.iaddrS 1 54 (ci_ 0)),
 oq_ 56 (.load (.int .u8) 1 55),
 oq_ 57 (.conv .u64 56),
 oq_ 58 (mv_ 0),
 oq_ 59 (.nilck 58),
 oq_ 60 (.faddr 1 59),
 oq_ 61 (.load .one 1 60),
 oq_ 62 (.slS 1 61 (some (ci_ 1)) none),
 oq_ 63 (.nilck 49),
 oq_ 64 (.faddr 1 63),
 oq_ 65 (.iaddrA false 32 1 64 (ci_ 10)),
 on_ (.store 1 65 57),
 oq_ 66 (.nilck 50),
 oq_ 67 (.faddr 1 66),
 on_ (.store 1 67 62)]
def x78_8 : C_ := .cnd 45 (.draw x78_7 [[], [0], [0, 1], [0, 1, 2], [], [], [5], [5, 6], [5, 6, 7], [5, 6, 7, 8], [5, 6, 7, 8, 9], [5, 6, 7, 8, 9, 10], [], [12], [12, 13], [12, 13, 14], [12, 13, 14, 15], [0, 1, 2, 3], [0, 1, 2, 3, 17], [0, 1, 2, 3, 5, 6, 7, 8, 9, 10, 11, 12, 13, 14, 15, 17, 18], [0, 1, 2, 3, 5, 6, 7, 8, 9, 10, 11, 12, 13, 14, 15, 17, 18, 19], [0, 1, 2, 3, 4, 5, 6, 7, 8, 9, 10, 11, 12, 13, 14, 15, 16, 17, 18, 19, 20], [0, 1, 2, 3, 4, 5, 6, 7, 8, 9, 10, 11, 12, 13, 14, 15, 16, 17, 18, 19, 20, 21], [0, 1, 2, 3, 4, 5, 6, 7, 8, 9, 10, 11, 12, 13, 14, 15, 16, 17, 18, 19, 20, 21, 22]]) .skip
def x78_9 : C_ := .seq (r_ x78_6) x78_8
def x78_10 : C_ := .seq (r_ x78_5) x78_9
def x78_11 : L_ := [oq_ 69 (.bin .eql 10 (.const (.int .u64 3))),
 oq_ 68 (mv_ 69)]
def x78_12 : L_ := [oq_ 70 (mv_ 0),
 oq_ 71 (.nilck 70),
 oq_ 72 (.faddr 0 71),
 oq_ 73 (.load .one 1 72),
 oq_ 74 (mv_ 0),
 oq_ 75 (.nilck 74),
 oq_ 76 (.faddr 0 75),
 oq_ 77 (.load .one 1 76),
 oq_ 78 (mv_ 0),
 oq_ 79 (.nilck 78),
 oq_ 80 (.faddr 0 79),
 oq_ 81 (.load .one 1 80),
 oq_ 82 (.nilck 81),
 oq_ 83 (.faddr 1 82),
 oq_ 84 (.iaddrA false 32 1 83 (ci_ 10)),
 oq_ 85 (.load (.int .u64) 1 84),
 oq_ 86 (.conv .u8 85),
 oq_ 87 (.nilck 73),
 oq_ 88 (.faddr 34 87),
 on_ (.store 1 88 (ci_ 1)),
 oq_ 89 (.nilck 77),
 oq_ 90 (.faddr 35 89),
 on_ (.store 1 90 86)]
def x78_13 : L_ := [oq_ 92 (.bin .eql 10 (.const (.int .u64 4))),
 oq_ 91 (mv_ 92)]
def x78_14 : L_ := [oq_ 93 (mv_ 0),
 oq_ 94 (.nilck 93),
 oq_ 95 (.faddr 0 94),
 oq_ 96 (.load .one 1 95),
 oq_ 97 (.nilck 96),
 oq_ 98 (.faddr 34 97),
 on_ (.store 1 98 (ci_ 2))]
def x78_15 : L_ := [oq_ 100 (.bin .eql 10 (.const (.int .u64 5))),
 oq_ 99 (mv_ 100)]
def x78_16 : L_ := [oq_ 101 (mv_ 0),
 oq_ 102 (.nilck 101),
 oq_ 103 (.faddr 0 102),
 oq_ 104 (.load .one 1 103),
 oq_ 105 (.nilck 104),
 oq_ 106 (.faddr 34 105),
 on_ (.store 1 106 (ci_ 3))]
def x78_17 : L_ := [oq_ 2 (.mv (.const (.bool false)))]
def x78_18 : C_ := .seq (r_ x78_17) .ret
def x78_19 : C_ := .cnd 99 (r_ x78_16) x78_18
def x78_20 : C_ := .seq (r_ x78_15) x78_19
def x78_21 : C_ := .cnd 91 (r_ x78_14) x78_20
def x78_22 : C_ := .seq (r_ x78_13) x78_21
def x78_23 : C_ := .cnd 68 (.draw x78_12 [[], [0], [0, 1], [0, 1, 2], [], [4], [4, 5], [4, 5, 6], [], [8], [8, 9], [8, 9, 10], [8, 9, 10, 11], [8, 9, 10, 11, 12], [8, 9, 10, 11, 12, 13], [8, 9, 10, 11, 12, 13, 14], [8, 9, 10, 11, 12, 13, 14, 15], [0, 1, 2, 3, 4, 5, 6, 7, 8, 9, 10, 11, 12, 13, 14, 15], [0, 1, 2, 3, 4, 5, 6, 7, 8, 9, 10, 11, 12, 13, 14, 15, 17], [0, 1, 2, 3, 4, 5, 6, 7, 8, 9, 10, 11, 12, 13, 14, 15, 17, 18], [0, 1, 2, 3, 4, 5, 6, 7, 8, 9, 10, 11, 12, 13, 14, 15, 16, 17, 18, 19], [0, 1, 2, 3, 4, 5, 6, 7, 8, 9, 10, 11, 12, 13, 14, 15, 16, 17, 18, 19, 20], [0, 1, 2, 3, 4, 5, 6, 7, 8, 9, 10, 11, 12, 13, 14, 15, 16, 17, 18, 19, 20, 21]]) x78_22
def x78_24 : C_ := .seq (r_ x78_11) x78_23
def x78_25 : C_ := .cnd 31 x78_10 x78_24
def x78_26 : C_ := .seq (r_ x78_4) x78_25
def x78_27 : C_ := .cnd 11 (.draw x78_3 [[], [], [1], [1, 2], [1, 2, 3], [], [5], [5, 6], [5, 6, 7], [5, 6, 7, 8], [5, 6, 7, 8, 9], [5, 6, 7, 8, 9, 10], [5, 6, 7, 8, 9, 10, 11], [5, 6, 7, 8, 9, 10, 11, 12], [5, 6, 7, 8, 9, 10, 11, 12, 13], [1, 2, 3, 4, 5, 6, 7, 8, 9, 10, 11, 12, 13, 14], [0, 1, 2, 3, 4, 5, 6, 7, 8, 9, 10, 11, 12, 13, 14, 15], [0, 1, 2, 3, 4, 5, 6, 7, 8, 9, 10, 11, 12, 13, 14, 15, 16], [0, 1, 2, 3, 4, 5, 6, 7, 8, 9, 10, 11, 12, 13, 14, 15, 16, 17]]) x78_26
def x78_28 : C_ := .seq (r_ x78_2) x78_27
def x78_29 : C_ := .block 0 x78_28
def x78_30 : C_ := .seq (r_ x78_1) x78_29
def x78_31 : L_ := [oq_ 2 (.mv (.const (.bool true)))]
def x78_32 : C_ := .seq (r_ x78_31) .ret
def x78_33 : C_ := .seq x78_30 x78_32
def x78_34 : C_ := .seq (r_ x78_0) x78_33
def x78 : C_ := x78_34
theorem fx78 : fnx Try.prog 78 = some (107, [(2, none)], x78) := by kernel_rfl
def x83_0 : L_ := [oq_ 6 (.mv (.const (.slice none 0 0))),
 oq_ 7 (.mv (.const (.bool false)))]
def x83_1 : L_ := [oq_ 8 (mv_ 1),
 oq_ 9 (mv_ 2),
 oq_ 10 (.conv .u64 9),
 oq_ 11 (.bin .rem 8 10),
 oq_ 12 (.bin .neq 11 (.const (.int .u64 0))),
 oq_ 13 (mv_ 12),
 og_ 14 13 false (mv_ 1),
 og_ 15 13 false (mv_ 0),
 og_ 16 13 false (.nilck 15),
 og_ 17 13 false (.faddr 0 16),
 og_ 18 13 false (.load .one 1 17),
 og_ 19 13 false (.lenS 18),
 og_ 20 13 false (.conv .u64 19),
 og_ 21 13 false (.bin .gtr 14 20),
 ⟨(some 22), .pick 13 (.const (.bool true)) 21, none⟩,
 oq_ 23 (mv_ 22),
 og_ 24 23 false (mv_ 0),
 og_ 25 23 false (.nilck 24),
 og_ 26 23 false (.faddr 0 25),
 og_ 27 23 false (.load .one 1 26),
 og_ 28 23 false (.lenS 27),
 og_ 29 23 false (.conv .u64 28),
 og_ 30 23 false (mv_ 1),
 og_ 31 23 false (.bin .sub 29 30),
 og_ 32 23 false (mv_ 2),
 og_ 33 23 false (.conv .u64 32),
 og_ 34 23 false (.bin .lss 31 33),
 ⟨(some 35), .pick 23 (.const (.bool true)) 34, none⟩]
def x83_2 : L_ := [oq_ 6 (.mv (.const (.slice none 0 0))),
 oq_ 7 (.mv (.const (.bool false)))]
def x83_3 : C_ := .seq (r_ x83_2) .ret
def x83_4 : C_ := .cnd 35 x83_3 .skip
def x83_5 : C_ := .seq (r_ x83_1) x83_4
def x83_6 : L_ := [oq_ 36 (mv_ 0),
 oq_ 37 (.nilck 36),
 oq_ 38 (.faddr 0 37),
 oq_ 39 (.load .one 1 38),
 oq_ 40 (mv_ 1),
 oq_ 41 (mv_ 1),
 oq_ 42 (mv_ 2),
 oq_ 43 (.conv .u64 42),
 oq_ 44 (.bin .add 41 43),
 oq_ 45 (.slS 1 39 (some 40) (some 44)),
 oq_ 6 (mv_ 45),
 oq_ 7 (.mv (.const (.bool true)))]
def x83_7 : C_ := .seq (r_ x83_6) .ret
def x83_8 : C_ := .seq x83_5 x83_7
def x83_9 : C_ := .seq (r_ x83_0) x83_8
def x83 : C_ := x83_9
theorem fx83 : fnx Try.prog 83 = some (46, [(6, none), (7, none)], x83) := by kernel_rfl
def x84_0 : L_ := [oq_ 2 (.mv (.const (.int .u64 0)))]
def x84_1 : L_ := [oq_ 3 (.mv (.const (.int .u64 0)))]
def x84_2 : L_ := [oq_ 6 (mv_ 0),
 oq_ 7 (.lenS 6),
 oq_ 8 (.mv (ci_ 0))]
def x84_3 : L_ := [oq_ 9 (.bin .lss 8 7)]
def x84_4 : C_ := .cnd 9 .skip (.exit 0)
def x84_5 : L_ := [oq_ 10 (mv_ 8),
 oq_ 11 (.iaddrS 1 6 8),
 oq_ 12 (.load (.int .u8) 1 11),
 oq_ 4 (mv_ 10),
 oq_ 5 (mv_ 12)]
def x84_6 : L_ := [oq_ 13 (mv_ 3),
 oq_ 14 (mv_ 5),
 oq_ 15 (.conv .u64 14),
 oq_ 16 (mv_ 4),
 oq_ 17 (.bin .mul (ci_ 8) 16),
 oq_ 18 (.bin .shl 15 17),
 oq_ 19 (.bin .or 13 18),
 oq_ 3 (mv_ 19)]
def x84_7 : C_ := .seq (r_ x84_5) (r_ x84_6)
def x84_8 : C_ := .block 1 x84_7
def x84_9 : L_ := [oq_ 20 (.bin .add 8 (ci_ 1)),
 oq_ 8 (mv_ 20)]
def x84_10 : C_ := .seq x84_8 (r_ x84_9)
def x84_11 : C_ := .seq x84_4 x84_10
def x84_12 : C_ := .seq (r_ x84_3) x84_11
def x84_13 : C_ := .loop x84_12
def x84_14 : C_ := .block 0 x84_13
def x84_15 : C_ := .seq (r_ x84_2) x84_14
def x84_16 : L_ := [oq_ 21 (mv_ 3),
 oq_ 2 (mv_ 21)]
def x84_17 : C_ := .seq (r_ x84_16) .ret
def x84_18 : C_ := .seq x84_15 x84_17
def x84_19 : C_ := .seq (r_ x84_1) x84_18
def x84_20 : C_ := .seq (r_ x84_0) x84_19
def x84 : C_ := x84_20
theorem fx84 : fnx Try.prog 84 = some (22, [(2, none)], x84) := by kernel_rfl
def x85_0 : L_ := [oq_ 6 (.mv (.const (.int .u64 0))),
 oq_ 7 (.mv (.const (.bool false)))]
def x85_1 : L_ := [oq_ 12 (mv_ 1),
 oq_ 13 (.conv .i64 12),
 oq_ 14 (mv_ 2),
 oq_ 15 (.conv .i64 14),
 oq_ 8 (mv_ 13),
 oq_ 9 (mv_ 15)]
def x85_2 : L_ := [oq_ 17 (mv_ 1),
 oq_ 18 (mv_ 2),
 oc_ 19 98 [17, 18],
 oq_ 16 (mv_ 19),
 oq_ 20 (.ext 16 0),
 oq_ 21 (.ext 16 1),
 oq_ 10 (mv_ 20),
 oq_ 11 (mv_ 21)]
def x85_3 : L_ := [oq_ 22 (mv_ 0)]
def x85_4 : L_ := [oq_ 24 (.bin .eql 22 (ci_ 1)),
 oq_ 23 (mv_ 24)]
def x85_5 : L_ := [oq_ 25 (mv_ 1),
 oq_ 26 (mv_ 2),
 oq_ 27 (.bin .add 25 26),
 oq_ 6 (mv_ 27),
 oq_ 7 (.mv (.const (.bool true)))]
def x85_6 : C_ := .seq (r_ x85_5) .ret
def x85_7 : L_ := [oq_ 29 (.bin .eql 22 (ci_ 2)),
 oq_ 28 (mv_ 29)]
def x85_8 : L_ := [oq_ 30 (mv_ 1),
 oq_ 31 (mv_ 2),
 oq_ 32 (.bin .sub 30 31),
 oq_ 6 (mv_ 32),
 oq_ 7 (.mv (.const (.bool true)))]
def x85_9 : C_ := .seq (r_ x85_8) .ret
def x85_10 : L_ := [oq_ 34 (.bin .eql 22 (ci_ 3)),
 oq_ 33 (mv_ 34)]
def x85_11 : L_ := [oq_ 35 (mv_ 1),
 oq_ 36 (mv_ 2),
 oq_ 37 (.bin .and 36 (.const (.int .u64 63))),
 oq_ 38 (.bin .shl 35 37),
 oq_ 6 (mv_ 38),
 oq_ 7 (.mv (.const (.bool true)))]
def x85_12 : C_ := .seq (r_ x85_11) .ret
def x85_13 : L_ := [oq_ 40 (.bin .eql 22 (ci_ 4)),
 oq_ 39 (mv_ 40)]
def x85_14 : L_ := [oq_ 41 (mv_ 8),
 oq_ 42 (mv_ 9),
 oq_ 43 (.bin .lss 41 42),
 oc_ 44 99 [43],
 oq_ 6 (mv_ 44),
 oq_ 7 (.mv (.const (.bool true)))]
def x85_15 : C_ := .seq (r_ x85_14) .ret
def x85_16 : L_ := [oq_ 46 (.bin .eql 22 (ci_ 5)),
 oq_ 45 (mv_ 46)]
def x85_17 : L_ := [oq_ 47 (mv_ 1),
 oq_ 48 (mv_ 2),
 oq_ 49 (.bin .lss 47 48),
 oc_ 50 99 [49],
 oq_ 6 (mv_ 50),
 oq_ 7 (.mv (.const (.bool true)))]
def x85_18 : C_ := .seq (r_ x85_17) .ret
def x85_19 : L_ := [oq_ 52 (.bin .eql 22 (ci_ 6)),
 oq_ 51 (mv_ 52)]
def x85_20 : L_ := [oq_ 53 (mv_ 1),
 oq_ 54 (mv_ 2),
 oq_ 55 (.bin .xor 53 54),
 oq_ 6 (mv_ 55),
 oq_ 7 (.mv (.const (.bool true)))]
def x85_21 : C_ := .seq (r_ x85_20) .ret
def x85_22 : L_ := [oq_ 57 (.bin .eql 22 (ci_ 7)),
 oq_ 56 (mv_ 57)]
def x85_23 : L_ := [oq_ 58 (mv_ 1),
 oq_ 59 (mv_ 2),
 oq_ 60 (.bin .and 59 (.const (.int .u64 63))),
 oq_ 61 (.bin .shr 58 60),
 oq_ 6 (mv_ 61),
 oq_ 7 (.mv (.const (.bool true)))]
def x85_24 : C_ := .seq (r_ x85_23) .ret
def x85_25 : L_ := [oq_ 63 (.bin .eql 22 (ci_ 8)),
 oq_ 62 (mv_ 63)]
def x85_26 : L_ := [oq_ 64 (mv_ 8),
 oq_ 65 (mv_ 2),
 oq_ 66 (.bin .and 65 (.const (.int .u64 63))),
 oq_ 67 (.bin .shr 64 66),
 oq_ 68 (.conv .u64 67),
 oq_ 6 (mv_ 68),
 oq_ 7 (.mv (.const (.bool true)))]
def x85_27 : C_ := .seq (r_ x85_26) .ret
def x85_28 : L_ := [oq_ 70 (.bin .eql 22 (ci_ 9)),
 oq_ 69 (mv_ 70)]
def x85_29 : L_ := [oq_ 71 (mv_ 1),
 oq_ 72 (mv_ 2),
 oq_ 73 (.bin .or 71 72),
 oq_ 6 (mv_ 73),
 oq_ 7 (.mv (.const (.bool true)))]
def x85_30 : C_ := .seq (r_ x85_29) .ret
def x85_31 : L_ := [oq_ 75 (.bin .eql 22 (ci_ 10)),
 oq_ 74 (mv_ 75)]
def x85_32 : L_ := [oq_ 76 (mv_ 1),
 oq_ 77 (mv_ 2),
 oq_ 78 (.bin .and 76 77),
 oq_ 6 (mv_ 78),
 oq_ 7 (.mv (.const (.bool true)))]
def x85_33 : C_ := .seq (r_ x85_32) .ret
def x85_34 : L_ := [oq_ 80 (.bin .eql 22 (ci_ 11)),
 oq_ 79 (mv_ 80)]
def x85_35 : L_ := [oq_ 81 (mv_ 11),
 oq_ 6 (mv_ 81),
 oq_ 7 (.mv (.const (.bool true)))]
def x85_36 : C_ := .seq (r_ x85_35) .ret
def x85_37 : L_ := [oq_ 83 (.bin .eql 22 (ci_ 13)),
 oq_ 82 (mv_ 83)]
def x85_38 : L_ := [oq_ 84 (mv_ 10),
 oq_ 6 (mv_ 84),
 oq_ 7 (.mv (.const (.bool true)))]
def x85_39 : C_ := .seq (r_ x85_38) .ret
def x85_40 : L_ := [oq_ 86 (.bin .eql 22 (ci_ 12)),
 oq_ 85 (mv_ 86)]
def x85_41 : L_ := [oq_ 87 (mv_ 10),
 oq_ 88 (mv_ 2),
 oq_ 89 (mv_ 8),
 oq_ 90 (.bin .lss 89 (ci_ 0)),
 oc_ 91 99 [90],
 oq_ 92 (.bin .mul 88 91),
 oq_ 93 (.bin .sub 87 92),
 oq_ 94 (mv_ 1),
 oq_ 95 (mv_ 9),
 oq_ 96 (.bin .lss 95 (ci_ 0)),
 oc_ 97 99 [96],
 oq_ 98 (.bin .mul 94 97),
 oq_ 99 (.bin .sub 93 98),
 oq_ 6 (mv_ 99),
 oq_ 7 (.mv (.const (.bool true)))]
def x85_42 : C_ := .seq (r_ x85_41) .ret
def x85_43 : C_ := .cnd 85 x85_42 .skip
def x85_44 : C_ := .seq (r_ x85_40) x85_43
def x85_45 : C_ := .cnd 82 x85_39 x85_44
def x85_46 : C_ := .seq (r_ x85_37) x85_45
def x85_47 : C_ := .cnd 79 x85_36 x85_46
def x85_48 : C_ := .seq (r_ x85_34) x85_47
def x85_49 : C_ := .cnd 74 x85_33 x85_48
def x85_50 : C_ := .seq (r_ x85_31) x85_49
def x85_51 : C_ := .cnd 69 x85_30 x85_50
def x85_52 : C_ := .seq (r_ x85_28) x85_51
def x85_53 : C_ := .cnd 62 x85_27 x85_52
def x85_54 : C_ := .seq (r_ x85_25) x85_53
def x85_55 : C_ := .cnd 56 x85_24 x85_54
def x85_56 : C_ := .seq (r_ x85_22) x85_55
def x85_57 : C_ := .cnd 51 x85_21 x85_56
def x85_58 : C_ := .seq (r_ x85_19) x85_57
def x85_59 : C_ := .cnd 45 x85_18 x85_58
def x85_60 : C_ := .seq (r_ x85_16) x85_59
def x85_61 : C_ := .cnd 39 x85_15 x85_60
def x85_62 : C_ := .seq (r_ x85_13) x85_61
def x85_63 : C_ := .cnd 33 x85_12 x85_62
def x85_64 : C_ := .seq (r_ x85_10) x85_63
def x85_65 : C_ := .cnd 28 x85_9 x85_64
def x85_66 : C_ := .seq (r_ x85_7) x85_65
def x85_67 : C_ := .cnd 23 x85_6 x85_66
def x85_68 : C_ := .seq (r_ x85_4) x85_67
def x85_69 : C_ := .block 0 x85_68
def x85_70 : C_ := .seq (r_ x85_3) x85_69
def x85_71 : L_ := [oq_ 6 (.mv (.const (.int .u64 0))),
 oq_ 7 (.mv (.const (.bool false)))]
def x85_72 : C_ := .seq (r_ x85_71) .ret
def x85_73 : C_ := .seq x85_70 x85_72
def x85_74 : C_ := .seq (r_ x85_2) x85_73
def x85_75 : C_ := .seq (r_ x85_1) x85_74
def x85_76 : C_ := .seq (r_ x85_0) x85_75
def x85 : C_ := x85_76
theorem fx85 : fnx Try.prog 85 = some (100, [(6, none), (7, none)], x85) := by kernel_rfl
def x86_0 : L_ := [oq_ 6 (.mv (.const (.int .u64 0))),
 oq_ 7 (.mv (.const (.bool false)))]
def x86_1 : L_ := [oq_ 10 (mv_ 1),
 oq_ 11 (.conv .i64 10),
 oq_ 12 (mv_ 2),
 oq_ 13 (.conv .i64 12),
 oq_ 8 (mv_ 11),
 oq_ 9 (mv_ 13)]
def x86_2 : L_ := [oq_ 14 (mv_ 0)]
def x86_3 : L_ := [oq_ 16 (.bin .eql 14 (ci_ 14)),
 oq_ 15 (mv_ 16)]
def x86_4 : L_ := [oq_ 17 (.bin .eql 14 (ci_ 15)),
 oq_ 15 (mv_ 17)]
def x86_5 : C_ := .cnd 15 .skip (r_ x86_4)
def x86_6 : C_ := .seq (r_ x86_3) x86_5
def x86_7 : L_ := [oq_ 18 (mv_ 2),
 oq_ 19 (.bin .eql 18 (.const (.int .u64 0)))]
def x86_8 : L_ := [oq_ 6 (.mv (.const (.int .u64 18446744073709551615))),
 oq_ 7 (.mv (.const (.bool true)))]
def x86_9 : C_ := .seq (r_ x86_8) .ret
def x86_10 : C_ := .cnd 19 x86_9 .skip
def x86_11 : C_ := .seq (r_ x86_7) x86_10
def x86_12 : L_ := [oq_ 20 (mv_ 0),
 oq_ 21 (.bin .eql 20 (ci_ 15))]
def x86_13 : L_ := [oq_ 22 (mv_ 1),
 oq_ 23 (mv_ 2),
 oq_ 24 (.bin .quo 22 23),
 oq_ 6 (mv_ 24),
 oq_ 7 (.mv (.const (.bool true)))]
def x86_14 : C_ := .seq (r_ x86_13) .ret
def x86_15 : C_ := .cnd 21 x86_14 .skip
def x86_16 : C_ := .seq (r_ x86_12) x86_15
def x86_17 : L_ := [oq_ 25 (mv_ 8),
 oq_ 26 (mv_ 9),
 oq_ 27 (.bin .quo 25 26),
 oq_ 28 (.conv .u64 27),
 oq_ 6 (mv_ 28),
 oq_ 7 (.mv (.const (.bool true)))]
def x86_18 : C_ := .seq (r_ x86_17) .ret
def x86_19 : C_ := .seq x86_16 x86_18
def x86_20 : C_ := .seq x86_11 x86_19
def x86_21 : L_ := [oq_ 30 (.bin .eql 14 (ci_ 16)),
 oq_ 29 (mv_ 30)]
def x86_22 : L_ := [oq_ 31 (.bin .eql 14 (ci_ 17)),
 oq_ 29 (mv_ 31)]
def x86_23 : C_ := .cnd 29 .skip (r_ x86_22)
def x86_24 : C_ := .seq (r_ x86_21) x86_23
def x86_25 : L_ := [oq_ 32 (mv_ 2),
 oq_ 33 (.bin .eql 32 (.const (.int .u64 0)))]
def x86_26 : L_ := [oq_ 34 (mv_ 1),
 oq_ 6 (mv_ 34),
 oq_ 7 (.mv (.const (.bool true)))]
def x86_27 : C_ := .seq (r_ x86_26) .ret
def x86_28 : C_ := .cnd 33 x86_27 .skip
def x86_29 : C_ := .seq (r_ x86_25) x86_28
def x86_30 : L_ := [oq_ 35 (mv_ 0),
 oq_ 36 (.bin .eql 35 (ci_ 17))]
def x86_31 : L_ := [oq_ 37 (mv_ 1),
 oq_ 38 (mv_ 2),
 oq_ 39 (.bin .rem 37 38),
 oq_ 6 (mv_ 39),
 oq_ 7 (.mv (.const (.bool true)))]
def x86_32 : C_ := .seq (r_ x86_31) .ret
def x86_33 : C_ := .cnd 36 x86_32 .skip
def x86_34 : C_ := .seq (r_ x86_30) x86_33
def x86_35 : L_ := [oq_ 40 (mv_ 8),
 oq_ 41 (mv_ 9),
 oq_ 42 (.bin .rem 40 41),
 oq_ 43 (.conv .u64 42),
 oq_ 6 (mv_ 43),
 oq_ 7 (.mv (.const (.bool true)))]
def x86_36 : C_ := .seq (r_ x86_35) .ret
def x86_37 : C_ := .seq x86_34 x86_36
def x86_38 : C_ := .seq x86_29 x86_37
def x86_39 : C_ := .cnd 29 x86_38 .skip
def x86_40 : C_ := .seq x86_24 x86_39
def x86_41 : C_ := .cnd 15 x86_20 x86_40
def x86_42 : C_ := .seq x86_6 x86_41
def x86_43 : C_ := .block 0 x86_42
def x86_44 : C_ := .seq (r_ x86_2) x86_43
def x86_45 : L_ := [oq_ 6 (.mv (.const (.int .u64 0))),
 oq_ 7 (.mv (.const (.bool false)))]
def x86_46 : C_ := .seq (r_ x86_45) .ret
def x86_47 : C_ := .seq x86_44 x86_46
def x86_48 : C_ := .seq (r_ x86_1) x86_47
def x86_49 : C_ := .seq (r_ x86_0) x86_48
def x86 : C_ := x86_49
theorem fx86 : fnx Try.prog 86 = some (44, [(6, none), (7, none)], x86) := by kernel_rfl
def x87_0 : L_ := [oq_ 2 (.mv (ci_ 0)),
 oq_ 3 (.mv (.const (.bool false))),
 oq_ 4 (.mv (.const (.bool false)))]
def x87_1 : L_ := [oq_ 5 (mv_ 0)]
def x87_2 : L_ := [oq_ 7 (.bin .eql 5 (ci_ 18)),
 oq_ 6 (mv_ 7)]
def x87_3 : L_ := [oq_ 2 (.mv (ci_ 1)),
 oq_ 3 (.mv (.const (.bool true))),
 oq_ 4 (.mv (.const (.bool true)))]
def x87_4 : C_ := .seq (r_ x87_3) .ret
def x87_5 : L_ := [oq_ 9 (.bin .eql 5 (ci_ 19)),
 oq_ 8 (mv_ 9)]
def x87_6 : L_ := [oq_ 2 (.mv (ci_ 2)),
 oq_ 3 (.mv (.const (.bool true))),
 oq_ 4 (.mv (.const (.bool true)))]
def x87_7 : C_ := .seq (r_ x87_6) .ret
def x87_8 : L_ := [oq_ 11 (.bin .eql 5 (ci_ 20)),
 oq_ 10 (mv_ 11)]
def x87_9 : L_ := [oq_ 2 (.mv (ci_ 3)),
 oq_ 3 (.mv (.const (.bool true))),
 oq_ 4 (.mv (.const (.bool true)))]
def x87_10 : C_ := .seq (r_ x87_9) .ret
def x87_11 : L_ := [oq_ 13 (.bin .eql 5 (ci_ 21)),
 oq_ 12 (mv_ 13)]
def x87_12 : L_ := [oq_ 2 (.mv (ci_ 7)),
 oq_ 3 (.mv (.const (.bool false))),
 oq_ 4 (.mv (.const (.bool true)))]
def x87_13 : C_ := .seq (r_ x87_12) .ret
def x87_14 : L_ := [oq_ 15 (.bin .eql 5 (ci_ 22)),
 oq_ 14 (mv_ 15)]
def x87_15 : L_ := [oq_ 2 (.mv (ci_ 8)),
 oq_ 3 (.mv (.const (.bool true))),
 oq_ 4 (.mv (.const (.bool true)))]
def x87_16 : C_ := .seq (r_ x87_15) .ret
def x87_17 : L_ := [oq_ 17 (.bin .eql 5 (ci_ 23)),
 oq_ 16 (mv_ 17)]
def x87_18 : L_ := [oq_ 2 (.mv (ci_ 11)),
 oq_ 3 (.mv (.const (.bool true))),
 oq_ 4 (.mv (.const (.bool true)))]
def x87_19 : C_ := .seq (r_ x87_18) .ret
def x87_20 : L_ := [oq_ 19 (.bin .eql 5 (ci_ 24)),
 oq_ 18 (mv_ 19)]
def x87_21 : L_ := [oq_ 2 (.mv (ci_ 14)),
 oq_ 3 (.mv (.const (.bool true))),
 oq_ 4 (.mv (.const (.bool true)))]
def x87_22 : C_ := .seq (r_ x87_21) .ret
def x87_23 : L_ := [oq_ 21 (.bin .eql 5 (ci_ 25)),
 oq_ 20 (mv_ 21)]
def x87_24 : L_ := [oq_ 2 (.mv (ci_ 15)),
 oq_ 3 (.mv (.const (.bool false))),
 oq_ 4 (.mv (.const (.bool true)))]
def x87_25 : C_ := .seq (r_ x87_24) .ret
def x87_26 : L_ := [oq_ 23 (.bin .eql 5 (ci_ 26)),
 oq_ 22 (mv_ 23)]
def x87_27 : L_ := [oq_ 2 (.mv (ci_ 16)),
 oq_ 3 (.mv (.const (.bool true))),
 oq_ 4 (.mv (.const (.bool true)))]
def x87_28 : C_ := .seq (r_ x87_27) .ret
def x87_29 : L_ := [oq_ 25 (.bin .eql 5 (ci_ 27)),
 oq_ 24 (mv_ 25)]
def x87_30 : L_ := [oq_ 2 (.mv (ci_ 17)),
 oq_ 3 (.mv (.const (.bool false))),
 oq_ 4 (.mv (.const (.bool true)))]
def x87_31 : C_ := .seq (r_ x87_30) .ret
def x87_32 : C_ := .cnd 24 x87_31 .skip
def x87_33 : C_ := .seq (r_ x87_29) x87_32
def x87_34 : C_ := .cnd 22 x87_28 x87_33
def x87_35 : C_ := .seq (r_ x87_26) x87_34
def x87_36 : C_ := .cnd 20 x87_25 x87_35
def x87_37 : C_ := .seq (r_ x87_23) x87_36
def x87_38 : C_ := .cnd 18 x87_22 x87_37
def x87_39 : C_ := .seq (r_ x87_20) x87_38
def x87_40 : C_ := .cnd 16 x87_19 x87_39
def x87_41 : C_ := .seq (r_ x87_17) x87_40
def x87_42 : C_ := .cnd 14 x87_16 x87_41
def x87_43 : C_ := .seq (r_ x87_14) x87_42
def x87_44 : C_ := .cnd 12 x87_13 x87_43
def x87_45 : C_ := .seq (r_ x87_11) x87_44
def x87_46 : C_ := .cnd 10 x87_10 x87_45
def x87_47 : C_ := .seq (r_ x87_8) x87_46
def x87_48 : C_ := .cnd 8 x87_7 x87_47
def x87_49 : C_ := .seq (r_ x87_5) x87_48
def x87_50 : C_ := .cnd 6 x87_4 x87_49
def x87_51 : C_ := .seq (r_ x87_2) x87_50
def x87_52 : C_ := .block 0 x87_51
def x87_53 : C_ := .seq (r_ x87_1) x87_52
def x87_54 : L_ := [oq_ 2 (.mv (ci_ 0)),
 oq_ 3 (.mv (.const (.bool false))),
 oq_ 4 (.mv (.const (.bool false)))]
def x87_55 : C_ := .seq (r_ x87_54) .ret
def x87_56 : C_ := .seq x87_53 x87_55
def x87_57 : C_ := .seq (r_ x87_0) x87_56
def x87 : C_ := x87_57
theorem fx87 : fnx Try.prog 87 = some (26, [(2, none), (3, none), (4, none)], x87) := by kernel_rfl
def x88_0 : L_ := [oq_ 2 (.mv (ci_ 0))]
def x88_1 : L_ := [oq_ 3 (mv_ 0)]
def x88_2 : L_ := [oq_ 5 (.bin .eql 3 (ci_ 40)),
 oq_ 4 (mv_ 5)]
def x88_3 : L_ := [oq_ 6 (.bin .eql 3 (ci_ 43)),
 oq_ 4 (mv_ 6)]
def x88_4 : C_ := .cnd 4 .skip (r_ x88_3)
def x88_5 : C_ := .seq (r_ x88_2) x88_4
def x88_6 : L_ := [oq_ 2 (.mv (ci_ 4))]
def x88_7 : C_ := .seq (r_ x88_6) .ret
def x88_8 : L_ := [oq_ 8 (.bin .eql 3 (ci_ 41)),
 oq_ 7 (mv_ 8)]
def x88_9 : L_ := [oq_ 9 (.bin .eql 3 (ci_ 44)),
 oq_ 7 (mv_ 9)]
def x88_10 : C_ := .cnd 7 .skip (r_ x88_9)
def x88_11 : C_ := .seq (r_ x88_8) x88_10
def x88_12 : L_ := [oq_ 2 (.mv (ci_ 8))]
def x88_13 : C_ := .seq (r_ x88_12) .ret
def x88_14 : C_ := .cnd 7 x88_13 .skip
def x88_15 : C_ := .seq x88_11 x88_14
def x88_16 : C_ := .cnd 4 x88_7 x88_15
def x88_17 : C_ := .seq x88_5 x88_16
def x88_18 : C_ := .block 0 x88_17
def x88_19 : C_ := .seq (r_ x88_1) x88_18
def x88_20 : L_ := [oq_ 2 (.mv (ci_ 1))]
def x88_21 : C_ := .seq (r_ x88_20) .ret
def x88_22 : C_ := .seq x88_19 x88_21
def x88_23 : C_ := .seq (r_ x88_0) x88_22
def x88 : C_ := x88_23
theorem fx88 : fnx Try.prog 88 = some (10, [(2, none)], x88) := by kernel_rfl
def x98_0 : L_ := [oq_ 4 (.mv (.const (.int .u64 0))),
 oq_ 5 (.mv (.const (.int .u64 0)))]
def x98_1 : L_ := [oq_ 14 (mv_ 0),
 oq_ 15 (.bin .and 14 (.const (.int .u64 4294967295))),
 oq_ 6 (mv_ 15)]
def x98_2 : L_ := [oq_ 16 (mv_ 0),
 oq_ 17 (.bin .shr 16 (.const (.int .u64 32))),
 oq_ 7 (mv_ 17)]
def x98_3 : L_ := [oq_ 18 (mv_ 1),
 oq_ 19 (.bin .and 18 (.const (.int .u64 4294967295))),
 oq_ 8 (mv_ 19)]
def x98_4 : L_ := [oq_ 20 (mv_ 1),
 oq_ 21 (.bin .shr 20 (.const (.int .u64 32))),
 oq_ 9 (mv_ 21)]
def x98_5 : L_ := [oq_ 22 (mv_ 6),
 oq_ 23 (mv_ 8),
 oq_ 24 (.bin .mul 22 23),
 oq_ 10 (mv_ 24)]
def x98_6 : L_ := [oq_ 25 (mv_ 7),
 oq_ 26 (mv_ 8),
 oq_ 27 (.bin .mul 25 26),
 oq_ 28 (mv_ 10),
 oq_ 29 (.bin .shr 28 (.const (.int .u64 32))),
 oq_ 30 (.bin .add 27 29),
 oq_ 11 (mv_ 30)]
def x98_7 : L_ := [oq_ 31 (mv_ 11),
 oq_ 32 (.bin .and 31 (.const (.int .u64 4294967295))),
 oq_ 12 (mv_ 32)]
def x98_8 : L_ := [oq_ 33 (mv_ 11),
 oq_ 34 (.bin .shr 33 (.const (.int .u64 32))),
 oq_ 13 (mv_ 34)]
def x98_9 : L_ := [oq_ 35 (mv_ 12),
 oq_ 36 (mv_ 6),
 oq_ 37 (mv_ 9),
 oq_ 38 (.bin .mul 36 37),
 oq_ 39 (.bin .add 35 38),
 oq_ 12 (mv_ 39)]
def x98_10 : L_ := [oq_ 40 (mv_ 7),
 oq_ 41 (mv_ 9),
 oq_ 42 (.bin .mul 40 41),
 oq_ 43 (mv_ 13),
 oq_ 44 (.bin .add 42 43),
 oq_ 45 (mv_ 12),
 oq_ 46 (.bin .shr 45 (.const (.int .u64 32))),
 oq_ 47 (.bin .add 44 46),
 oq_ 4 (mv_ 47)]
def x98_11 : L_ := [oq_ 48 (mv_ 0),
 oq_ 49 (mv_ 1),
 oq_ 50 (.bin .mul 48 49),
 oq_ 5 (mv_ 50)]
def x98_12 : C_ := .seq (r_ x98_11) .ret
def x98_13 : C_ := .seq (r_ x98_10) x98_12
def x98_14 : C_ := .seq (r_ x98_9) x98_13
def x98_15 : C_ := .seq (r_ x98_8) x98_14
def x98_16 : C_ := .seq (r_ x98_7) x98_15
def x98_17 : C_ := .seq (r_ x98_6) x98_16
def x98_18 : C_ := .seq (r_ x98_5) x98_17
def x98_19 : C_ := .seq (r_ x98_4) x98_18
def x98_20 : C_ := .seq (r_ x98_3) x98_19
def x98_21 : C_ := .seq (r_ x98_2) x98_20
def x98_22 : C_ := .seq (r_ x98_1) x98_21
def x98_23 : C_ := .seq (r_ x98_0) x98_22
def x98 : C_ := x98_23
theorem fx98 : fnx Try.prog 98 = some (51, [(4, none), (5, none)], x98) := by kernel_rfl
def x99_0 : L_ := [oq_ 2 (.mv (.const (.int .u64 0)))]
def x99_1 : L_ := [oq_ 3 (mv_ 0)]
def x99_2 : L_ := [oq_ 2 (.mv (.const (.int .u64 1)))]
def x99_3 : C_ := .seq (r_ x99_2) .ret
def x99_4 : C_ := .cnd 3 x99_3 .skip
def x99_5 : C_ := .seq (r_ x99_1) x99_4
def x99_6 : L_ := [oq_ 2 (.mv (.const (.int .u64 0)))]
def x99_7 : C_ := .seq (r_ x99_6) .ret
def x99_8 : C_ := .seq x99_5 x99_7
def x99_9 : C_ := .seq (r_ x99_0) x99_8
def x99 : C_ := x99_9
theorem fx99 : fnx Try.prog 99 = some (4, [(2, none)], x99) := by kernel_rfl
end Go.X
