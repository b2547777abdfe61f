import Derived.Test.YtnekegldodbgjaaI15
import Derived.Test.YtnekegldodbgjaaProg
import Derived.KernelRfl
set_option linter.all false
namespace Go.X
open Go Go.Proofs



def t_ (n : Nat) : Operand := .tmp n
def ci_ (n : Int) : Operand := .const (.int .i64 n)
def mv_ (n : Nat) : XOp := .mv (.tmp n)
def oq_ (d : Nat) (o : XOp) : XOper := ⟨some d, .op o, none⟩
def og_ (d c : Nat) (b : Bool) (o : XOp) : XOper := ⟨some d, .op o, some (c, b)⟩
def oc_ (d f : Nat) (l : List Operand) : XOper := ⟨some d, .callF f l, none⟩
def on_ (o : XOp) : XOper := ⟨none, .op o, none⟩
def x10_0 : List XOper := [oq_ 4 (.mv (.const (.bool false)))]
def x10_1 : List XOper := [oc_ 9 21 [],
 oq_ 10 (.un .not (t_ 9)),
 oq_ 11 (mv_ 10),
 og_ 12 11 false (mv_ 0),
 og_ 13 11 false (.lenS (t_ 12)),
 og_ 14 11 false (.bin .gtr (t_ 13) (ci_ 3000)),
 ⟨(some 15), .pick (t_ 11) (.const (.bool true)) (t_ 14), none⟩]
def x10_2 : List XOper := [oc_ 16 21 [],
 oq_ 4 (mv_ 16)]
def x10_3 : XCode := .seq (.region x10_2) .ret
def x10_4 : XCode := .cnd (t_ 15) x10_3 .skip
def x10_5 : XCode := .seq (.region x10_1) x10_4
def x10_6 : List XOper := [oq_ 18 (mv_ 0),
 oq_ 19 (mv_ 1),
 oc_ 20 22 [(t_ 18), (t_ 19)],
 oq_ 17 (mv_ 20),
 oq_ 21 (.ext (t_ 17) 0),
 oq_ 22 (.ext (t_ 17) 1),
 oq_ 5 (mv_ 21),
 oq_ 6 (mv_ 22)]
def x10_7 : List XOper := [oq_ 24 (mv_ 0),
 oq_ 25 (mv_ 1),
 oc_ 26 32 [(t_ 24), (t_ 25)],
 oq_ 23 (mv_ 26),
 oq_ 27 (.ext (t_ 23) 0),
 oq_ 28 (.ext (t_ 23) 1),
 oq_ 7 (.new [(.slice none 0 0), (.int .u64 0), (.int .u64 0), (.int .u64 0), (.int .u64 0), (.int .u64 0), (.int .u64 0), (.int .u64 0), (.int .u64 0), (.int .u64 0), (.int .u64 0), (.int .u64 0), (.int .u64 0), (.int .u64 0), (.int .u64 0), (.int .u64 0), (.int .u64 0), (.int .u64 0), (.int .u64 0), (.int .u64 0), (.int .u64 0), (.int .u64 0), (.int .u64 0), (.int .u64 0), (.int .u64 0), (.int .u64 0), (.int .u64 0), (.int .u64 0), (.int .u64 0), (.int .u64 0), (.int .u64 0), (.int .u64 0), (.int .u64 0), (.int .u64 0), (.int .i64 0), (.int .u8 0)]),
 on_ (.store 36 (t_ 7) (t_ 27)),
 oq_ 8 (mv_ 28)]
def x10_8 : List XOper := [oq_ 29 (mv_ 6),
 oq_ 30 (.bin .eql (t_ 29) (ci_ 0)),
 oq_ 31 (mv_ 8),
 oq_ 32 (.eqb true (t_ 30) (t_ 31)),
 oq_ 33 (mv_ 32),
 og_ 34 33 false (mv_ 5),
 og_ 35 33 false (.eqnil 0 false (t_ 34) (.const (.pointer none))),
 og_ 36 33 false (mv_ 8),
 og_ 37 33 false (.un .not (t_ 36)),
 og_ 38 33 false (.eqb true (t_ 35) (t_ 37)),
 ⟨(some 39), .pick (t_ 33) (.const (.bool true)) (t_ 38), none⟩,
 oq_ 40 (mv_ 39),
 og_ 41 40 false (mv_ 8),
 og_ 42 40 false (.un .not (t_ 41)),
 og_ 43 40 false (mv_ 42),
 og_ 44 43 true (mv_ 6),
 og_ 45 43 true (.bin .neq (t_ 44) (ci_ 1)),
 ⟨(some 46), .pick (t_ 43) (t_ 45) (.const (.bool false)), (some (40, false))⟩,
 ⟨(some 47), .pick (t_ 40) (.const (.bool true)) (t_ 46), none⟩]
def x10_9 : List XOper := [oq_ 4 (.mv (.const (.bool false)))]
def x10_10 : XCode := .seq (.region x10_9) .ret
def x10_11 : XCode := .cnd (t_ 47) x10_10 .skip
def x10_12 : XCode := .seq (.region x10_8) x10_11
def x10_13 : List XOper := [oq_ 48 (mv_ 8),
 oq_ 49 (.un .not (t_ 48)),
 oq_ 50 (mv_ 49),
 og_ 51 50 false (mv_ 1),
 og_ 52 50 false (.bin .gtr (t_ 51) (ci_ 65536)),
 ⟨(some 53), .pick (t_ 50) (.const (.bool true)) (t_ 52), none⟩,
 oq_ 54 (mv_ 53),
 og_ 55 54 false (mv_ 5),
 og_ 56 54 false (.load .agg 36 (t_ 7)),
 ⟨(some 57), .callF 33 [(t_ 55), (t_ 56)], (some (54, false))⟩,
 ⟨(some 58), .pick (t_ 54) (.const (.bool true)) (t_ 57), none⟩,
 oq_ 4 (mv_ 58)]
def x10_14 : XCode := .seq (.region x10_13) .ret
def x10_15 : XCode := .seq x10_12 x10_14
def x10_16 : XCode := .seq (.region x10_7) x10_15
def x10_17 : XCode := .seq (.region x10_6) x10_16
def x10_18 : XCode := .seq x10_5 x10_17
def x10_19 : XCode := .seq (.region x10_0) x10_18
def x10 : XCode := x10_19
theorem fx10 : fnx Try.prog 10 = some (59, [(4, none)], x10) := by kernel_rfl
def x18_0 : List XOper := [oq_ 1 (.box (t_ 0)),
 oq_ 2 (.mv (.const (.int .u32 0))),
 oq_ 3 (.mv (ci_ 0))]
def x18_1 : List XOper := [oc_ 18 43 [],
 oq_ 19 (.faddr 0 (t_ 1)),
 oq_ 20 (.load (.int .i64) 1 (t_ 19)),
 oq_ 21 (.lookup 3 104 (.int .i64) (.agg #[(.int .u8 0), (.int .u32 0), (.int .u32 0), (.int .u32 0)]) true (t_ 18) (t_ 20)),
 oq_ 17 (mv_ 21),
 oq_ 22 (.ext (t_ 17) 0),
 oq_ 23 (.ext (t_ 17) 1),
 oq_ 4 (.new [(.int .u8 0), (.int .u32 0), (.int .u32 0), (.int .u32 0)]),
 on_ (.store 4 (t_ 4) (t_ 22)),
 oq_ 5 (mv_ 23)]
def x18_2 : List XOper := [oq_ 25 (.faddr 0 (t_ 4)),
 oq_ 26 (.load (.int .u8) 1 (t_ 25)),
 oc_ 27 44 [(t_ 26)],
 oq_ 24 (mv_ 27),
 oq_ 28 (.ext (t_ 24) 0),
 oq_ 29 (.ext (t_ 24) 1),
 oq_ 6 (mv_ 28),
 oq_ 7 (mv_ 29)]
def x18_3 : List XOper := [oq_ 30 (.faddr 1 (t_ 1)),
 oq_ 31 (.load (.int .i64) 1 (t_ 30)),
 oq_ 32 (.faddr 2 (t_ 1)),
 oq_ 33 (.load (.int .i64) 1 (t_ 32)),
 oq_ 34 (.faddr 3 (t_ 1)),
 oq_ 35 (.load (.int .i64) 1 (t_ 34)),
 oq_ 36 (.build [(.int .i64 0), (.int .i64 0), (.int .i64 0)] [(0, 1, (t_ 31)), (1, 1, (t_ 33)), (2, 1, (t_ 35))]),
 oq_ 8 (.new [(.int .i64 0), (.int .i64 0), (.int .i64 0)]),
 on_ (.store 3 (t_ 8) (t_ 36))]
def x18_4 : List XOper := [oq_ 37 (.faddr 0 (t_ 4)),
 oq_ 38 (.load (.int .u8) 1 (t_ 37)),
 oc_ 39 45 [(t_ 38)],
 oq_ 40 (.mv (ci_ 0))]
def x18_5 : List XOper := [oq_ 41 (.bin .lss (t_ 40) (ci_ 3))]
def x18_6 : XCode := .cnd (t_ 41) .skip (.exit 0)
def x18_7 : List XOper := [oq_ 42 (mv_ 40),
 oq_ 43 (.idxA 3 1 .bool (t_ 39) (t_ 40)),
 oq_ 9 (mv_ 42),
 oq_ 10 (mv_ 43)]
def x18_8 : List XOper := [oq_ 44 (mv_ 5),
 oq_ 45 (mv_ 44),
 og_ 46 45 true (mv_ 10),
 og_ 47 45 true (mv_ 46),
 og_ 48 47 false (mv_ 9),
 og_ 49 47 false (.iaddrA true 3 1 (t_ 8) (t_ 48)),
 og_ 50 47 false (.load (.int .i64) 1 (t_ 49)),
 og_ 51 47 false (.bin .eql (t_ 50) (ci_ 0)),
 ⟨(some 52), .pick (t_ 47) (.const (.bool true)) (t_ 51), (some (45, true))⟩,
 ⟨(some 53), .pick (t_ 45) (t_ 52) (.const (.bool false)), none⟩,
 oq_ 5 (mv_ 53)]
def x18_9 : XCode := .seq (.region x18_7) (.region x18_8)
def x18_10 : XCode := .block 1 x18_9
def x18_11 : List XOper := [oq_ 54 (.bin .add (t_ 40) (ci_ 1)),
 oq_ 40 (mv_ 54)]
def x18_12 : XCode := .seq x18_10 (.region x18_11)
def x18_13 : XCode := .seq x18_6 x18_12
def x18_14 : XCode := .seq (.region x18_5) x18_13
def x18_15 : XCode := .loop x18_14
def x18_16 : XCode := .block 0 x18_15
def x18_17 : XCode := .seq (.region x18_4) x18_16
def x18_18 : List XOper := [oq_ 55 (mv_ 5),
 oq_ 56 (.un .not (t_ 55)),
 oq_ 57 (mv_ 56),
 og_ 58 57 false (mv_ 6),
 og_ 59 57 false (mv_ 7),
 og_ 60 57 false (.bin .gtr (t_ 58) (t_ 59)),
 og_ 61 57 false (mv_ 60),
 og_ 62 61 true (.faddr 4 (t_ 1)),
 og_ 63 61 true (.load (.int .i64) 1 (t_ 62)),
 og_ 64 61 true (.bin .neq (t_ 63) (ci_ 0)),
 ⟨(some 65), .pick (t_ 61) (t_ 64) (.const (.bool false)), (some (57, false))⟩,
 ⟨(some 66), .pick (t_ 57) (.const (.bool true)) (t_ 65), none⟩]
def x18_19 : List XOper := [oq_ 2 (.mv (.const (.int .u32 0))),
 oq_ 3 (.mv (ci_ 2))]
def x18_20 : XCode := .seq (.region x18_19) .ret
def x18_21 : XCode := .cnd (t_ 66) x18_20 .skip
def x18_22 : XCode := .seq (.region x18_18) x18_21
def x18_23 : List XOper := [oq_ 67 (.faddr 1 (t_ 4)),
 oq_ 68 (.faddr 0 (t_ 67)),
 oq_ 69 (.load (.int .u32) 1 (t_ 68)),
 oq_ 70 (.faddr 1 (t_ 4)),
 oq_ 71 (.faddr 1 (t_ 70)),
 oq_ 72 (.load (.int .u32) 1 (t_ 71)),
 oq_ 73 (.bin .shl (t_ 72) (.const (.int .u64 12))),
 oq_ 74 (.bin .or (t_ 69) (t_ 73)),
 oq_ 75 (.faddr 1 (t_ 4)),
 oq_ 76 (.faddr 2 (t_ 75)),
 oq_ 77 (.load (.int .u32) 1 (t_ 76)),
 oq_ 78 (.bin .shl (t_ 77) (.const (.int .u64 25))),
 oq_ 79 (.bin .or (t_ 74) (t_ 78)),
 oq_ 11 (mv_ 79)]
def x18_24 : List XOper := [oq_ 80 (.load .agg 3 (t_ 8)),
 oq_ 81 (.mv (ci_ 0))]
def x18_25 : List XOper := [oq_ 82 (.bin .lss (t_ 81) (ci_ 3))]
def x18_26 : XCode := .cnd (t_ 82) .skip (.exit 2)
def x18_27 : List XOper := [oq_ 83 (mv_ 81),
 oq_ 84 (.idxA 3 1 (.int .i64) (t_ 80) (t_ 81)),
 oq_ 12 (mv_ 83),
 oq_ 13 (mv_ 84)]
def x18_28 : List XOper := [oq_ 85 (mv_ 13),
 oq_ 86 (.bin .lss (t_ 85) (ci_ 0)),
 oq_ 87 (mv_ 86),
 og_ 88 87 false (mv_ 13),
 og_ 89 87 false (.bin .gtr (t_ 88) (ci_ 31)),
 ⟨(some 90), .pick (t_ 87) (.const (.bool true)) (t_ 89), none⟩]
def x18_29 : List XOper := [oq_ 2 (.mv (.const (.int .u32 0))),
 oq_ 3 (.mv (ci_ 1))]
def x18_30 : XCode := .seq (.region x18_29) .ret
def x18_31 : XCode := .cnd (t_ 90) x18_30 .skip
def x18_32 : XCode := .seq (.region x18_28) x18_31
def x18_33 : List XOper := [oq_ 91 (mv_ 11),
 oq_ 92 (mv_ 13),
 oq_ 93 (.conv .u32 (t_ 92)),
 oq_ 94 (.build [(.int .u64 0), (.int .u64 0), (.int .u64 0)] [(0, 1, (.const (.int .u64 7))), (1, 1, (.const (.int .u64 15))), (2, 1, (.const (.int .u64 20)))]),
 oq_ 95 (mv_ 12),
 oq_ 96 (.idxA 3 1 (.int .u64) (t_ 94) (t_ 95)),
 oq_ 97 (.bin .shl (t_ 93) (t_ 96)),
 oq_ 98 (.bin .or (t_ 91) (t_ 97)),
 oq_ 11 (mv_ 98)]
def x18_34 : XCode := .seq x18_32 (.region x18_33)
def x18_35 : XCode := .seq (.region x18_27) x18_34
def x18_36 : XCode := .block 3 x18_35
def x18_37 : List XOper := [oq_ 99 (.bin .add (t_ 81) (ci_ 1)),
 oq_ 81 (mv_ 99)]
def x18_38 : XCode := .seq x18_36 (.region x18_37)
def x18_39 : XCode := .seq x18_26 x18_38
def x18_40 : XCode := .seq (.region x18_25) x18_39
def x18_41 : XCode := .loop x18_40
def x18_42 : XCode := .block 2 x18_41
def x18_43 : XCode := .seq (.region x18_24) x18_42
def x18_44 : List XOper := [oq_ 100 (.faddr 0 (t_ 4)),
 oq_ 101 (.load (.int .u8) 1 (t_ 100)),
 oq_ 102 (.bin .eql (t_ 101) (.const (.int .u8 66))),
 oq_ 103 (mv_ 102),
 og_ 104 103 false (.faddr 0 (t_ 4)),
 og_ 105 103 false (.load (.int .u8) 1 (t_ 104)),
 og_ 106 103 false (.bin .eql (t_ 105) (.const (.int .u8 74))),
 ⟨(some 107), .pick (t_ 103) (.const (.bool true)) (t_ 106), none⟩,
 oq_ 108 (mv_ 107),
 og_ 109 108 true (.faddr 4 (t_ 1)),
 og_ 110 108 true (.load (.int .i64) 1 (t_ 109)),
 og_ 111 108 true (.bin .and (t_ 110) (ci_ 1)),
 og_ 112 108 true (.bin .eql (t_ 111) (ci_ 1)),
 ⟨(some 113), .pick (t_ 108) (t_ 112) (.const (.bool false)), none⟩,
 oq_ 14 (mv_ 113)]
def x18_45 : List XOper := [oq_ 114 (mv_ 6),
 oq_ 115 (mv_ 7),
 oq_ 116 (.bin .leq (t_ 114) (t_ 115)),
 oq_ 117 (mv_ 116),
 og_ 118 117 true (.faddr 4 (t_ 1)),
 og_ 119 117 true (.load (.int .i64) 1 (t_ 118)),
 og_ 120 117 true (mv_ 6),
 og_ 121 117 true (.bin .lss (t_ 119) (t_ 120)),
 og_ 122 117 true (mv_ 121),
 og_ 123 122 false (.faddr 4 (t_ 1)),
 og_ 124 122 false (.load (.int .i64) 1 (t_ 123)),
 og_ 125 122 false (mv_ 7),
 og_ 126 122 false (.bin .gtr (t_ 124) (t_ 125)),
 ⟨(some 127), .pick (t_ 122) (.const (.bool true)) (t_ 126), (some (117, true))⟩,
 og_ 128 117 true (mv_ 127),
 og_ 129 128 false (mv_ 14),
 ⟨(some 130), .pick (t_ 128) (.const (.bool true)) (t_ 129), (some (117, true))⟩,
 ⟨(some 131), .pick (t_ 117) (t_ 130) (.const (.bool false)), none⟩]
def x18_46 : List XOper := [oq_ 2 (.mv (.const (.int .u32 0))),
 oq_ 3 (.mv (ci_ 1))]
def x18_47 : XCode := .seq (.region x18_46) .ret
def x18_48 : XCode := .cnd (t_ 131) x18_47 .skip
def x18_49 : XCode := .seq (.region x18_45) x18_48
def x18_50 : List XOper := [oq_ 132 (.faddr 0 (t_ 4)),
 oq_ 133 (.load (.int .u8) 1 (t_ 132)),
 oc_ 134 46 [(t_ 133)],
 oq_ 135 (.lenS (t_ 134)),
 oq_ 136 (.mv (ci_ 0))]
def x18_51 : List XOper := [oq_ 137 (.bin .lss (t_ 136) (t_ 135))]
def x18_52 : XCode := .cnd (t_ 137) .skip (.exit 4)
def x18_53 : List XOper := [oq_ 138 (.iaddrS 3 (t_ 134) (t_ 136)),
 oq_ 139 (.load .agg 3 (t_ 138)),
 oq_ 16 (.new [(.int .u64 0), (.int .u64 0), (.int .u64 0)]),
 on_ (.store 3 (t_ 16) (t_ 139))]
def x18_54 : List XOper := [oq_ 140 (mv_ 11),
 oq_ 141 (.faddr 4 (t_ 1)),
 oq_ 142 (.load (.int .i64) 1 (t_ 141)),
 oq_ 143 (.conv .u32 (t_ 142)),
 oq_ 144 (.faddr 0 (t_ 16)),
 oq_ 145 (.load (.int .u64) 1 (t_ 144)),
 oq_ 146 (.bin .shr (t_ 143) (t_ 145)),
 oq_ 147 (.faddr 1 (t_ 16)),
 oq_ 148 (.load (.int .u64) 1 (t_ 147)),
 oq_ 149 (.bin .shl (.const (.int .u32 1)) (t_ 148)),
 oq_ 150 (.bin .sub (t_ 149) (.const (.int .u32 1))),
 oq_ 151 (.bin .and (t_ 146) (t_ 150)),
 oq_ 152 (.faddr 2 (t_ 16)),
 oq_ 153 (.load (.int .u64) 1 (t_ 152)),
 oq_ 154 (.bin .shl (t_ 151) (t_ 153)),
 oq_ 155 (.bin .or (t_ 140) (t_ 154)),
 oq_ 11 (mv_ 155)]
def x18_55 : XCode := .seq (.region x18_53) (.region x18_54)
def x18_56 : XCode := .block 5 x18_55
def x18_57 : List XOper := [oq_ 156 (.bin .add (t_ 136) (ci_ 1)),
 oq_ 136 (mv_ 156)]
def x18_58 : XCode := .seq x18_56 (.region x18_57)
def x18_59 : XCode := .seq x18_52 x18_58
def x18_60 : XCode := .seq (.region x18_51) x18_59
def x18_61 : XCode := .loop x18_60
def x18_62 : XCode := .block 4 x18_61
def x18_63 : XCode := .seq (.region x18_50) x18_62
def x18_64 : List XOper := [oq_ 157 (mv_ 11),
 oq_ 2 (mv_ 157),
 oq_ 3 (.mv (ci_ 0))]
def x18_65 : XCode := .seq (.region x18_64) .ret
def x18_66 : XCode := .seq x18_63 x18_65
def x18_67 : XCode := .seq x18_49 x18_66
def x18_68 : XCode := .seq (.region x18_44) x18_67
def x18_69 : XCode := .seq x18_43 x18_68
def x18_70 : XCode := .seq (.region x18_23) x18_69
def x18_71 : XCode := .seq x18_22 x18_70
def x18_72 : XCode := .seq x18_17 x18_71
def x18_73 : XCode := .seq (.region x18_3) x18_72
def x18_74 : XCode := .seq (.region x18_2) x18_73
def x18_75 : XCode := .seq (.draw x18_1 [[], [], [1], [0, 1, 2], [0, 1, 2, 3], [0, 1, 2, 3, 4], [0, 1, 2, 3, 4], [], [0, 1, 2, 3, 4, 5, 7], [0, 1, 2, 3, 4, 5, 6, 7, 8]]) x18_74
def x18_76 : XCode := .seq (.region x18_0) x18_75
def x18 : XCode := x18_76
theorem fx18 : fnx Try.prog 18 = some (158, [(2, none), (3, none)], x18) := by kernel_rfl
def x21_0 : List XOper := [oq_ 0 (.mv (.const (.bool false)))]
def x21_1 : List XOper := [oq_ 5 (.build [(.int .i64 0), (.int .i64 0), (.int .i64 0), (.int .i64 0), (.int .i64 0)] [(0, 1, (ci_ 28)), (1, 1, (ci_ 17)), (4, 1, (ci_ 3))]),
 oq_ 6 (.build [(.int .i64 0), (.int .i64 0), (.int .i64 0), (.int .i64 0), (.int .i64 0)] [(0, 1, (ci_ 55))]),
 oq_ 7 (.mkslice [(.int .i64 0), (.int .i64 0), (.int .i64 0), (.int .i64 0), (.int .i64 0)] 2 [(0, (t_ 5)), (1, (t_ 6))]),
 oc_ 8 23 [(t_ 7)],
 oc_ 9 22 [(t_ 8), (ci_ 64)],
 oq_ 4 (mv_ 9),
 oq_ 10 (.ext (t_ 4) 0),
 oq_ 11 (.ext (t_ 4) 1),
 oq_ 1 (mv_ 10),
 oq_ 2 (mv_ 11)]
def x21_2 : List XOper := [oq_ 12 (mv_ 2),
 oq_ 13 (.bin .neq (t_ 12) (ci_ 0)),
 oq_ 14 (mv_ 13),
 og_ 15 14 false (mv_ 1),
 og_ 16 14 false (.eqnil 0 false (t_ 15) (.const (.pointer none))),
 ⟨(some 17), .pick (t_ 14) (.const (.bool true)) (t_ 16), none⟩]
def x21_3 : List XOper := [oq_ 0 (.mv (.const (.bool false)))]
def x21_4 : XCode := .seq (.region x21_3) .ret
def x21_5 : XCode := .cnd (t_ 17) x21_4 .skip
def x21_6 : XCode := .seq (.region x21_2) x21_5
def x21_7 : List XOper := [oq_ 18 (mv_ 1),
 oc_ 19 24 [(t_ 18), (.const (.slice none 0 0)), (ci_ 9)],
 oq_ 3 (.new [(.int .i64 0), (.int .u8 0), (.int .i64 0), (.slice none 0 0), (.int .i64 0), (.int .i64 0)]),
 on_ (.store 6 (t_ 3) (t_ 19))]
def x21_8 : List XOper := [oq_ 20 (.faddr 0 (t_ 3)),
 oq_ 21 (.load (.int .i64) 1 (t_ 20)),
 oq_ 22 (.bin .eql (t_ 21) (ci_ 1)),
 oq_ 23 (mv_ 22),
 og_ 24 23 true (.faddr 1 (t_ 3)),
 og_ 25 23 true (.load (.int .u8) 1 (t_ 24)),
 og_ 26 23 true (.bin .eql (t_ 25) (.const (.int .u8 0))),
 ⟨(some 27), .pick (t_ 23) (t_ 26) (.const (.bool false)), none⟩,
 oq_ 28 (mv_ 27),
 og_ 29 28 true (.faddr 4 (t_ 3)),
 og_ 30 28 true (.load (.int .i64) 1 (t_ 29)),
 og_ 31 28 true (.bin .eql (t_ 30) (ci_ 2)),
 ⟨(some 32), .pick (t_ 28) (t_ 31) (.const (.bool false)), none⟩,
 oq_ 0 (mv_ 32)]
def x21_9 : XCode := .seq (.region x21_8) .ret
def x21_10 : XCode := .seq (.region x21_7) x21_9
def x21_11 : XCode := .seq x21_6 x21_10
def x21_12 : XCode := .seq (.region x21_1) x21_11
def x21_13 : XCode := .seq (.region x21_0) x21_12
def x21 : XCode := x21_13
theorem fx21 : fnx Try.prog 21 = some (33, [(0, none)], x21) := by kernel_rfl
def x22_0 : List XOper := [oq_ 4 (.mv (.const (.pointer none))),
 oq_ 5 (.mv (ci_ 0))]
def x22_1 : List XOper := [oq_ 7 (mv_ 1),
 oq_ 8 (mv_ 0),
 oq_ 9 (.lenS (t_ 8)),
 oq_ 10 (.bin .lss (t_ 7) (t_ 9)),
 oq_ 11 (mv_ 10),
 og_ 12 11 false (mv_ 1),
 og_ 13 11 false (.bin .gtr (t_ 12) (ci_ 4194304)),
 ⟨(some 14), .pick (t_ 11) (.const (.bool true)) (t_ 13), none⟩]
def x22_2 : List XOper := [oq_ 4 (.mv (.const (.pointer none))),
 oq_ 5 (.mv (ci_ 1))]
def x22_3 : XCode := .seq (.region x22_2) .ret
def x22_4 : XCode := .cnd (t_ 14) x22_3 .skip
def x22_5 : XCode := .seq (.region x22_1) x22_4
def x22_6 : List XOper := [oq_ 15 (mv_ 1),
 oq_ 16 (.mks [(.int .u8 0)] 1 (t_ 15) (t_ 15)),
 oq_ 17 (.mkmap 35 26 (.agg #[(.int .i64 0), (.int .i64 0), (.int .i64 0), (.int .i64 0), (.int .i64 0)])),
 oq_ 18 (.build [(.slice none 0 0), (.int .u64 0), (.int .u64 0), (.int .u64 0), (.int .u64 0), (.int .u64 0), (.int .u64 0), (.int .u64 0), (.int .u64 0), (.int .u64 0), (.int .u64 0), (.int .u64 0), (.int .u64 0), (.int .u64 0), (.int .u64 0), (.int .u64 0), (.int .u64 0), (.int .u64 0), (.int .u64 0), (.int .u64 0), (.int .u64 0), (.int .u64 0), (.int .u64 0), (.int .u64 0), (.int .u64 0), (.int .u64 0), (.int .u64 0), (.int .u64 0), (.int .u64 0), (.int .u64 0), (.int .u64 0), (.int .u64 0), (.int .u64 0), (.int .u64 0), (.int .i64 0), (.int .u8 0), (.map none)] [(0, 1, (t_ 16)), (36, 1, (t_ 17))]),
 oq_ 19 (.box (t_ 18)),
 oq_ 6 (mv_ 19)]
def x22_7 : List XOper := [oq_ 20 (mv_ 6),
 oq_ 21 (.nilck (t_ 20)),
 oq_ 22 (.faddr 0 (t_ 21)),
 oq_ 23 (.load .one 1 (t_ 22)),
 oq_ 24 (mv_ 0),
 oq_ 25 (.cpy 1 (t_ 23) (t_ 24))]
def x22_8 : List XOper := [oq_ 26 (mv_ 6),
 oq_ 4 (mv_ 26),
 oq_ 5 (.mv (ci_ 0))]
def x22_9 : XCode := .seq (.region x22_8) .ret
def x22_10 : XCode := .seq (.region x22_7) x22_9
def x22_11 : XCode := .seq (.region x22_6) x22_10
def x22_12 : XCode := .seq x22_5 x22_11
def x22_13 : XCode := .seq (.region x22_0) x22_12
def x22 : XCode := x22_13
theorem fx22 : fnx Try.prog 22 = some (27, [(4, none), (5, none)], x22) := by kernel_rfl
def x23_0 : List XOper := [oq_ 2 (.mv (.const (.slice none 0 0)))]
def x23_1 : List XOper := [oq_ 3 (.mv (.const (.slice none 0 0)))]
def x23_2 : List XOper := [oq_ 8 (mv_ 0),
 oq_ 9 (.lenS (t_ 8)),
 oq_ 10 (.mv (ci_ 0))]
def x23_3 : List XOper := [oq_ 11 (.bin .lss (t_ 10) (t_ 9))]
def x23_4 : XCode := .cnd (t_ 11) .skip (.exit 0)
def x23_5 : List XOper := [oq_ 12 (.iaddrS 5 (t_ 8) (t_ 10)),
 oq_ 13 (.load .agg 5 (t_ 12)),
 oq_ 5 (.new [(.int .i64 0), (.int .i64 0), (.int .i64 0), (.int .i64 0), (.int .i64 0)]),
 on_ (.store 5 (t_ 5) (t_ 13))]
def x23_6 : List XOper := [oq_ 15 (.load .agg 5 (t_ 5)),
 oc_ 16 47 [(t_ 15)],
 oq_ 14 (mv_ 16),
 oq_ 17 (.ext (t_ 14) 0),
 oq_ 18 (.ext (t_ 14) 1),
 oq_ 6 (mv_ 17),
 oq_ 7 (mv_ 18)]
def x23_7 : List XOper := [oq_ 19 (mv_ 7),
 oq_ 20 (.bin .eql (t_ 19) (ci_ 0))]
def x23_8 : List XOper := [oq_ 21 (mv_ 3),
 oq_ 22 (mv_ 6),
 oq_ 23 (.conv .u8 (t_ 22)),
 oq_ 24 (mv_ 6),
 oq_ 25 (.bin .shr (t_ 24) (.const (.int .u64 8))),
 oq_ 26 (.conv .u8 (t_ 25)),
 oq_ 27 (mv_ 6),
 oq_ 28 (.bin .shr (t_ 27) (.const (.int .u64 16))),
 oq_ 29 (.conv .u8 (t_ 28)),
 oq_ 30 (mv_ 6),
 oq_ 31 (.bin .shr (t_ 30) (.const (.int .u64 24))),
 oq_ 32 (.conv .u8 (t_ 31)),
 oq_ 33 (.mkslice [(.int .u8 0)] 4 [(0, (t_ 23)), (1, (t_ 26)), (2, (t_ 29)), (3, (t_ 32))]),
 oq_ 34 (.app 1 1 (t_ 21) (t_ 33)),
 oq_ 3 (mv_ 34)]
def x23_9 : XCode := .cnd (t_ 20) (.region x23_8) .skip
def x23_10 : XCode := .seq (.region x23_7) x23_9
def x23_11 : XCode := .seq (.region x23_6) x23_10
def x23_12 : XCode := .seq (.region x23_5) x23_11
def x23_13 : XCode := .block 1 x23_12
def x23_14 : List XOper := [oq_ 35 (.bin .add (t_ 10) (ci_ 1)),
 oq_ 10 (mv_ 35)]
def x23_15 : XCode := .seq x23_13 (.region x23_14)
def x23_16 : XCode := .seq x23_4 x23_15
def x23_17 : XCode := .seq (.region x23_3) x23_16
def x23_18 : XCode := .loop x23_17
def x23_19 : XCode := .block 0 x23_18
def x23_20 : XCode := .seq (.region x23_2) x23_19
def x23_21 : List XOper := [oq_ 36 (mv_ 3),
 oq_ 2 (mv_ 36)]
def x23_22 : XCode := .seq (.region x23_21) .ret
def x23_23 : XCode := .seq x23_20 x23_22
def x23_24 : XCode := .seq (.region x23_1) x23_23
def x23_25 : XCode := .seq (.region x23_0) x23_24
def x23 : XCode := x23_25
theorem fx23 : fnx Try.prog 23 = some (37, [(2, none)], x23) := by kernel_rfl
def x24_0 : List XOper := [oq_ 6 (.new [(.int .i64 0), (.int .u8 0), (.int .i64 0), (.slice none 0 0), (.int .i64 0), (.int .i64 0)])]
def x24_1 : List XOper := [oq_ 10 (mv_ 0),
 oq_ 11 (mv_ 1),
 oq_ 12 (mv_ 2),
 oc_ 13 48 [(t_ 10), (t_ 11), (t_ 12), (.const (.bool false))],
 oq_ 9 (mv_ 13),
 oq_ 14 (.ext (t_ 9) 0),
 oq_ 15 (.ext (t_ 9) 1),
 oq_ 7 (.new [(.int .i64 0), (.int .u8 0), (.int .i64 0), (.slice none 0 0), (.int .i64 0), (.int .i64 0)]),
 on_ (.store 6 (t_ 7) (t_ 14)),
 oq_ 8 (mv_ 15)]
def x24_2 : List XOper := [oq_ 16 (.load .agg 6 (t_ 7)),
 on_ (.store 6 (t_ 6) (t_ 16))]
def x24_3 : XCode := .seq (.region x24_2) .ret
def x24_4 : XCode := .seq (.region x24_1) x24_3
def x24_5 : XCode := .seq (.region x24_0) x24_4
def x24 : XCode := x24_5
theorem fx24 : fnx Try.prog 24 = some (17, [(6, (some (.agg, 6)))], x24) := by kernel_rfl
def x25_0 : List XOper := [oq_ 4 (.mv (.const (.int .u64 0)))]
def x25_1 : List XOper := [oq_ 5 (mv_ 1),
 oq_ 6 (.bin .lss (t_ 5) (ci_ 0)),
 oq_ 7 (mv_ 6),
 og_ 8 7 false (mv_ 1),
 og_ 9 7 false (.bin .gtr (t_ 8) (ci_ 31)),
 ⟨(some 10), .pick (t_ 7) (.const (.bool true)) (t_ 9), none⟩]
def x25_2 : List XOper := [oq_ 4 (.mv (.const (.int .u64 0)))]
def x25_3 : XCode := .seq (.region x25_2) .ret
def x25_4 : XCode := .cnd (t_ 10) x25_3 .skip
def x25_5 : XCode := .seq (.region x25_1) x25_4
def x25_6 : List XOper := [oq_ 11 (mv_ 0),
 oq_ 12 (mv_ 1),
 oq_ 13 (.nilck (t_ 11)),
 oq_ 14 (.faddr 1 (t_ 13)),
 oq_ 15 (.iaddrA true 32 1 (t_ 14) (t_ 12)),
 oq_ 16 (.load (.int .u64) 1 (t_ 15)),
 oq_ 4 (mv_ 16)]
def x25_7 : XCode := .seq (.region x25_6) .ret
def x25_8 : XCode := .seq x25_5 x25_7
def x25_9 : XCode := .seq (.region x25_0) x25_8
def x25 : XCode := x25_9
theorem fx25 : fnx Try.prog 25 = some (17, [(4, none)], x25) := by kernel_rfl
def x30_0 : List XOper := [oq_ 2 (.mv (.const (.int .u64 0)))]
def x30_1 : List XOper := [oq_ 3 (mv_ 0),
 oq_ 4 (.nilck (t_ 3)),
 oq_ 5 (.faddr 33 (t_ 4)),
 oq_ 6 (.load (.int .u64) 1 (t_ 5)),
 oq_ 2 (mv_ 6)]
def x30_2 : XCode := .seq (.region x30_1) .ret
def x30_3 : XCode := .seq (.region x30_0) x30_2
def x30 : XCode := x30_3
theorem fx30 : fnx Try.prog 30 = some (7, [(2, none)], x30) := by kernel_rfl
def x32_0 : List XOper := [oq_ 4 (.new [(.slice none 0 0), (.int .u64 0), (.int .u64 0), (.int .u64 0), (.int .u64 0), (.int .u64 0), (.int .u64 0), (.int .u64 0), (.int .u64 0), (.int .u64 0), (.int .u64 0), (.int .u64 0), (.int .u64 0), (.int .u64 0), (.int .u64 0), (.int .u64 0), (.int .u64 0), (.int .u64 0), (.int .u64 0), (.int .u64 0), (.int .u64 0), (.int .u64 0), (.int .u64 0), (.int .u64 0), (.int .u64 0), (.int .u64 0), (.int .u64 0), (.int .u64 0), (.int .u64 0), (.int .u64 0), (.int .u64 0), (.int .u64 0), (.int .u64 0), (.int .u64 0), (.int .i64 0), (.int .u8 0)]),
 oq_ 5 (.mv (.const (.bool false)))]
def x32_1 : List XOper := [oq_ 8 (mv_ 1),
 oq_ 9 (mv_ 0),
 oq_ 10 (.lenS (t_ 9)),
 oq_ 11 (.bin .lss (t_ 8) (t_ 10)),
 oq_ 12 (mv_ 11),
 og_ 13 12 false (mv_ 1),
 og_ 14 12 false (.bin .gtr (t_ 13) (ci_ 4194304)),
 ⟨(some 15), .pick (t_ 12) (.const (.bool true)) (t_ 14), none⟩]
def x32_2 : List XOper := [oq_ 16 (.build [(.slice none 0 0), (.int .u64 0), (.int .u64 0), (.int .u64 0), (.int .u64 0), (.int .u64 0), (.int .u64 0), (.int .u64 0), (.int .u64 0), (.int .u64 0), (.int .u64 0), (.int .u64 0), (.int .u64 0), (.int .u64 0), (.int .u64 0), (.int .u64 0), (.int .u64 0), (.int .u64 0), (.int .u64 0), (.int .u64 0), (.int .u64 0), (.int .u64 0), (.int .u64 0), (.int .u64 0), (.int .u64 0), (.int .u64 0), (.int .u64 0), (.int .u64 0), (.int .u64 0), (.int .u64 0), (.int .u64 0), (.int .u64 0), (.int .u64 0), (.int .u64 0), (.int .i64 0), (.int .u8 0)] []),
 on_ (.store 36 (t_ 4) (t_ 16)),
 oq_ 5 (.mv (.const (.bool false)))]
def x32_3 : XCode := .seq (.region x32_2) .ret
def x32_4 : XCode := .cnd (t_ 15) x32_3 .skip
def x32_5 : XCode := .seq (.region x32_1) x32_4
def x32_6 : List XOper := [oq_ 17 (mv_ 1),
 oq_ 18 (.mks [(.int .u8 0)] 1 (t_ 17) (t_ 17)),
 oq_ 19 (.build [(.slice none 0 0), (.int .u64 0), (.int .u64 0), (.int .u64 0), (.int .u64 0), (.int .u64 0), (.int .u64 0), (.int .u64 0), (.int .u64 0), (.int .u64 0), (.int .u64 0), (.int .u64 0), (.int .u64 0), (.int .u64 0), (.int .u64 0), (.int .u64 0), (.int .u64 0), (.int .u64 0), (.int .u64 0), (.int .u64 0), (.int .u64 0), (.int .u64 0), (.int .u64 0), (.int .u64 0), (.int .u64 0), (.int .u64 0), (.int .u64 0), (.int .u64 0), (.int .u64 0), (.int .u64 0), (.int .u64 0), (.int .u64 0), (.int .u64 0), (.int .u64 0), (.int .i64 0), (.int .u8 0)] [(0, 1, (t_ 18))]),
 oq_ 6 (.new [(.slice none 0 0), (.int .u64 0), (.int .u64 0), (.int .u64 0), (.int .u64 0), (.int .u64 0), (.int .u64 0), (.int .u64 0), (.int .u64 0), (.int .u64 0), (.int .u64 0), (.int .u64 0), (.int .u64 0), (.int .u64 0), (.int .u64 0), (.int .u64 0), (.int .u64 0), (.int .u64 0), (.int .u64 0), (.int .u64 0), (.int .u64 0), (.int .u64 0), (.int .u64 0), (.int .u64 0), (.int .u64 0), (.int .u64 0), (.int .u64 0), (.int .u64 0), (.int .u64 0), (.int .u64 0), (.int .u64 0), (.int .u64 0), (.int .u64 0), (.int .u64 0), (.int .i64 0), (.int .u8 0)]),
 on_ (.store 36 (t_ 6) (t_ 19))]
def x32_7 : List XOper := [oq_ 20 (mv_ 0),
 oq_ 21 (.lenS (t_ 20)),
 oq_ 22 (.mv (ci_ 0))]
def x32_8 : List XOper := [oq_ 23 (.bin .lss (t_ 22) (t_ 21))]
def x32_9 : XCode := .cnd (t_ 23) .skip (.exit 0)
def x32_10 : List XOper := [oq_ 24 (mv_ 22),
 oq_ 7 (mv_ 24)]
def x32_11 : List XOper := [oq_ 25 (.faddr 0 (t_ 6)),
 oq_ 26 (.load .one 1 (t_ 25)),
 oq_ 27 (mv_ 7),
 oq_ 28 (mv_ 0),
 oq_ 29 (mv_ 7),
 oq_ 30 (.iaddrS 1 (t_ 28) (t_ 29)),
 oq_ 31 (.load (.int .u8) 1 (t_ 30)),
 oq_ 32 (.iaddrS 1 (t_ 26) (t_ 27)),
 on_ (.store 1 (t_ 32) (t_ 31))]
def x32_12 : XCode := .seq (.region x32_10) (.draw x32_11 [[], [0], [], [], [], [3, 4], [3, 4, 5], [0, 1, 2, 3, 4, 5, 6], [0, 1, 2, 3, 4, 5, 6, 7]])
def x32_13 : XCode := .block 1 x32_12
def x32_14 : List XOper := [oq_ 33 (.bin .add (t_ 22) (ci_ 1)),
 oq_ 22 (mv_ 33)]
def x32_15 : XCode := .seq x32_13 (.region x32_14)
def x32_16 : XCode := .seq x32_9 x32_15
def x32_17 : XCode := .seq (.region x32_8) x32_16
def x32_18 : XCode := .loop x32_17
def x32_19 : XCode := .block 0 x32_18
def x32_20 : XCode := .seq (.region x32_7) x32_19
def x32_21 : List XOper := [oq_ 34 (.load .agg 36 (t_ 6)),
 on_ (.store 36 (t_ 4) (t_ 34)),
 oq_ 5 (.mv (.const (.bool true)))]
def x32_22 : XCode := .seq (.region x32_21) .ret
def x32_23 : XCode := .seq x32_20 x32_22
def x32_24 : XCode := .seq (.region x32_6) x32_23
def x32_25 : XCode := .seq x32_5 x32_24
def x32_26 : XCode := .seq (.region x32_0) x32_25
def x32 : XCode := x32_26
theorem fx32 : fnx Try.prog 32 = some (35, [(4, (some (.agg, 36))), (5, none)], x32) := by kernel_rfl
def x33_0 : List XOper := [oq_ 3 (.box (t_ 1)),
 oq_ 4 (.mv (.const (.bool false)))]
def x33_1 : List XOper := [oq_ 5 (.mv (ci_ (-1)))]
def x33_2 : List XOper := [oq_ 13 (mv_ 5),
 oq_ 14 (.bin .leq (t_ 13) (ci_ 32))]
def x33_3 : XCode := .cnd (t_ 14) .skip (.exit 0)
def x33_4 : XCode := .seq (.region x33_2) x33_3
def x33_5 : List XOper := [oq_ 6 (.mv (.const (.int .u64 0)))]
def x33_6 : List XOper := [oq_ 17 (mv_ 5),
 oq_ 18 (.bin .geq (t_ 17) (ci_ 0)),
 oq_ 19 (mv_ 18),
 og_ 20 19 true (mv_ 5),
 og_ 21 19 true (.bin .lss (t_ 20) (ci_ 32)),
 ⟨(some 22), .pick (t_ 19) (t_ 21) (.const (.bool false)), none⟩]
def x33_7 : List XOper := [oq_ 23 (mv_ 5),
 oq_ 24 (.faddr 1 (t_ 3)),
 oq_ 25 (.iaddrA true 32 1 (t_ 24) (t_ 23)),
 oq_ 26 (.load (.int .u64) 1 (t_ 25)),
 oq_ 6 (mv_ 26)]
def x33_8 : XCode := .cnd (t_ 22) (.region x33_7) .skip
def x33_9 : XCode := .seq (.region x33_6) x33_8
def x33_10 : List XOper := [oq_ 27 (mv_ 0),
 oq_ 28 (mv_ 5),
 oc_ 29 25 [(t_ 27), (t_ 28)],
 oq_ 30 (mv_ 6),
 oq_ 31 (.bin .neq (t_ 29) (t_ 30))]
def x33_11 : List XOper := [oq_ 4 (.mv (.const (.bool false)))]
def x33_12 : XCode := .seq (.region x33_11) .ret
def x33_13 : XCode := .cnd (t_ 31) x33_12 .skip
def x33_14 : XCode := .seq (.region x33_10) x33_13
def x33_15 : XCode := .seq x33_9 x33_14
def x33_16 : XCode := .seq (.region x33_5) x33_15
def x33_17 : XCode := .block 1 x33_16
def x33_18 : List XOper := [oq_ 15 (mv_ 5),
 oq_ 16 (.bin .add (t_ 15) (ci_ 1)),
 oq_ 5 (mv_ 16)]
def x33_19 : XCode := .seq x33_17 (.region x33_18)
def x33_20 : XCode := .seq x33_4 x33_19
def x33_21 : XCode := .loop x33_20
def x33_22 : XCode := .block 0 x33_21
def x33_23 : XCode := .seq (.region x33_1) x33_22
def x33_24 : List XOper := [oq_ 33 (mv_ 0),
 oq_ 34 (.faddr 0 (t_ 3)),
 oq_ 35 (.load .one 1 (t_ 34)),
 oq_ 36 (.lenS (t_ 35)),
 oc_ 37 37 [(t_ 33), (ci_ 0), (t_ 36)],
 oq_ 32 (mv_ 37),
 oq_ 38 (.ext (t_ 32) 0),
 oq_ 39 (.ext (t_ 32) 1),
 oq_ 7 (mv_ 38),
 oq_ 8 (mv_ 39)]
def x33_25 : List XOper := [oq_ 41 (mv_ 0),
 oq_ 42 (.faddr 0 (t_ 3)),
 oq_ 43 (.load .one 1 (t_ 42)),
 oq_ 44 (.lenS (t_ 43)),
 oq_ 45 (.bin .add (t_ 44) (ci_ 1)),
 oc_ 46 37 [(t_ 41), (ci_ 0), (t_ 45)],
 oq_ 40 (mv_ 46),
 oq_ 47 (.ext (t_ 40) 0),
 oq_ 48 (.ext (t_ 40) 1),
 oq_ 9 (mv_ 47),
 oq_ 10 (mv_ 48)]
def x33_26 : List XOper := [oq_ 50 (mv_ 0),
 oc_ 51 37 [(t_ 50), (ci_ (-1)), (ci_ 1)],
 oq_ 49 (mv_ 51),
 oq_ 52 (.ext (t_ 49) 0),
 oq_ 53 (.ext (t_ 49) 1),
 oq_ 11 (mv_ 52),
 oq_ 12 (mv_ 53)]
def x33_27 : List XOper := [oq_ 54 (mv_ 0),
 oc_ 55 30 [(t_ 54)],
 oq_ 56 (.faddr 33 (t_ 3)),
 oq_ 57 (.load (.int .u64) 1 (t_ 56)),
 oq_ 58 (.bin .eql (t_ 55) (t_ 57)),
 oq_ 59 (mv_ 58),
 og_ 60 59 true (mv_ 8),
 og_ 61 59 true (.bin .eql (t_ 60) (ci_ 0)),
 ⟨(some 62), .pick (t_ 59) (t_ 61) (.const (.bool false)), none⟩,
 oq_ 63 (mv_ 62),
 og_ 64 63 true (mv_ 7),
 og_ 65 63 true (.b2s (t_ 64)),
 og_ 66 63 true (.faddr 0 (t_ 3)),
 og_ 67 63 true (.load .one 1 (t_ 66)),
 og_ 68 63 true (.b2s (t_ 67)),
 og_ 69 63 true (.bin .eql (t_ 65) (t_ 68)),
 ⟨(some 70), .pick (t_ 63) (t_ 69) (.const (.bool false)), none⟩,
 oq_ 71 (mv_ 70),
 og_ 72 71 true (mv_ 10),
 og_ 73 71 true (.bin .eql (t_ 72) (ci_ 1)),
 ⟨(some 74), .pick (t_ 71) (t_ 73) (.const (.bool false)), none⟩,
 oq_ 75 (mv_ 74),
 og_ 76 75 true (mv_ 12),
 og_ 77 75 true (.bin .eql (t_ 76) (ci_ 1)),
 ⟨(some 78), .pick (t_ 75) (t_ 77) (.const (.bool false)), none⟩,
 oq_ 4 (mv_ 78)]
def x33_28 : XCode := .seq (.draw x33_27 [[], [0], [], [2], [0, 1, 2, 3], [0, 1, 2, 3, 4], [0, 1, 2, 3, 4, 5], [0, 1, 2, 3, 4, 5, 6], [0, 1, 2, 3, 4, 5, 6, 7], [0, 1, 2, 3, 4, 5, 6, 7, 8], [0, 1, 2, 3, 4, 5, 6, 7, 8, 9], [0, 1, 2, 3, 4, 5, 6, 7, 8, 9, 10], [0, 1, 2, 3, 4, 5, 6, 7, 8, 9], [0, 1, 2, 3, 4, 5, 6, 7, 8, 9, 12], [0, 1, 2, 3, 4, 5, 6, 7, 8, 9, 12, 13], [0, 1, 2, 3, 4, 5, 6, 7, 8, 9, 10, 11, 12, 13, 14], [0, 1, 2, 3, 4, 5, 6, 7, 8, 9, 10, 11, 12, 13, 14, 15], [0, 1, 2, 3, 4, 5, 6, 7, 8, 9, 10, 11, 12, 13, 14, 15, 16], [0, 1, 2, 3, 4, 5, 6, 7, 8, 9, 10, 11, 12, 13, 14, 15, 16, 17], [0, 1, 2, 3, 4, 5, 6, 7, 8, 9, 10, 11, 12, 13, 14, 15, 16, 17, 18], [0, 1, 2, 3, 4, 5, 6, 7, 8, 9, 10, 11, 12, 13, 14, 15, 16, 17, 18, 19], [0, 1, 2, 3, 4, 5, 6, 7, 8, 9, 10, 11, 12, 13, 14, 15, 16, 17, 18, 19, 20], [0, 1, 2, 3, 4, 5, 6, 7, 8, 9, 10, 11, 12, 13, 14, 15, 16, 17, 18, 19, 20, 21], [0, 1, 2, 3, 4, 5, 6, 7, 8, 9, 10, 11, 12, 13, 14, 15, 16, 17, 18, 19, 20, 21, 22], [0, 1, 2, 3, 4, 5, 6, 7, 8, 9, 10, 11, 12, 13, 14, 15, 16, 17, 18, 19, 20, 21, 22, 23], [0, 1, 2, 3, 4, 5, 6, 7, 8, 9, 10, 11, 12, 13, 14, 15, 16, 17, 18, 19, 20, 21, 22, 23, 24]]) .ret
def x33_29 : XCode := .seq (.region x33_26) x33_28
def x33_30 : XCode := .seq (.region x33_25) x33_29
def x33_31 : XCode := .seq (.region x33_24) x33_30
def x33_32 : XCode := .seq x33_23 x33_31
def x33_33 : XCode := .seq (.region x33_0) x33_32
def x33 : XCode := x33_33
theorem fx33 : fnx Try.prog 33 = some (79, [(4, none)], x33) := by kernel_rfl
def x36_0 : List XOper := [oq_ 6 (.mv (.const (.int .u64 0))),
 oq_ 7 (.mv (ci_ 0))]
def x36_1 : List XOper := [oq_ 9 (mv_ 1),
 oq_ 10 (.bin .lss (t_ 9) (ci_ 1)),
 oq_ 11 (mv_ 10),
 og_ 12 11 false (mv_ 1),
 og_ 13 11 false (.bin .gtr (t_ 12) (ci_ 64)),
 ⟨(some 14), .pick (t_ 11) (.const (.bool true)) (t_ 13), none⟩]
def x36_2 : List XOper := [oq_ 6 (.mv (.const (.int .u64 0))),
 oq_ 7 (.mv (ci_ 1))]
def x36_3 : XCode := .seq (.region x36_2) .ret
def x36_4 : XCode := .cnd (t_ 14) x36_3 .skip
def x36_5 : XCode := .seq (.region x36_1) x36_4
def x36_6 : List XOper := [oq_ 15 (mv_ 1),
 oq_ 16 (.bin .sub (ci_ 64) (t_ 15)),
 oq_ 8 (mv_ 16)]
def x36_7 : List XOper := [oq_ 17 (mv_ 2)]
def x36_8 : List XOper := [oq_ 18 (mv_ 0),
 oq_ 19 (mv_ 8),
 oq_ 20 (.bin .shl (t_ 18) (t_ 19)),
 oq_ 21 (.conv .i64 (t_ 20)),
 oq_ 22 (mv_ 8),
 oq_ 23 (.bin .shr (t_ 21) (t_ 22)),
 oq_ 24 (.conv .u64 (t_ 23)),
 oq_ 6 (mv_ 24),
 oq_ 7 (.mv (ci_ 0))]
def x36_9 : XCode := .seq (.region x36_8) .ret
def x36_10 : XCode := .cnd (t_ 17) x36_9 .skip
def x36_11 : XCode := .seq (.region x36_7) x36_10
def x36_12 : List XOper := [oq_ 25 (mv_ 0),
 oq_ 26 (mv_ 8),
 oq_ 27 (.bin .shl (t_ 25) (t_ 26)),
 oq_ 28 (mv_ 8),
 oq_ 29 (.bin .shr (t_ 27) (t_ 28)),
 oq_ 6 (mv_ 29),
 oq_ 7 (.mv (ci_ 0))]
def x36_13 : XCode := .seq (.region x36_12) .ret
def x36_14 : XCode := .seq x36_11 x36_13
def x36_15 : XCode := .seq (.region x36_6) x36_14
def x36_16 : XCode := .seq x36_5 x36_15
def x36_17 : XCode := .seq (.region x36_0) x36_16
def x36 : XCode := x36_17
theorem fx36 : fnx Try.prog 36 = some (30, [(6, none), (7, none)], x36) := by kernel_rfl
def x37_0 : List XOper := [oq_ 6 (.mv (.const (.slice none 0 0))),
 oq_ 7 (.mv (ci_ 0))]
def x37_1 : List XOper := [oq_ 8 (mv_ 1),
 oq_ 9 (.bin .lss (t_ 8) (ci_ 0)),
 oq_ 10 (mv_ 9),
 og_ 11 10 false (mv_ 2),
 og_ 12 10 false (.bin .lss (t_ 11) (ci_ 0)),
 ⟨(some 13), .pick (t_ 10) (.const (.bool true)) (t_ 12), none⟩,
 oq_ 14 (mv_ 13),
 og_ 15 14 false (mv_ 1),
 og_ 16 14 false (mv_ 0),
 og_ 17 14 false (.nilck (t_ 16)),
 og_ 18 14 false (.faddr 0 (t_ 17)),
 og_ 19 14 false (.load .one 1 (t_ 18)),
 og_ 20 14 false (.lenS (t_ 19)),
 og_ 21 14 false (.bin .gtr (t_ 15) (t_ 20)),
 ⟨(some 22), .pick (t_ 14) (.const (.bool true)) (t_ 21), none⟩,
 oq_ 23 (mv_ 22),
 og_ 24 23 false (mv_ 2),
 og_ 25 23 false (mv_ 0),
 og_ 26 23 false (.nilck (t_ 25)),
 og_ 27 23 false (.faddr 0 (t_ 26)),
 og_ 28 23 false (.load .one 1 (t_ 27)),
 og_ 29 23 false (.lenS (t_ 28)),
 og_ 30 23 false (mv_ 1),
 og_ 31 23 false (.bin .sub (t_ 29) (t_ 30)),
 og_ 32 23 false (.bin .gtr (t_ 24) (t_ 31)),
 ⟨(some 33), .pick (t_ 23) (.const (.bool true)) (t_ 32), none⟩]
def x37_2 : List XOper := [oq_ 6 (.mv (.const (.slice none 0 0))),
 oq_ 7 (.mv (ci_ 1))]
def x37_3 : XCode := .seq (.region x37_2) .ret
def x37_4 : XCode := .cnd (t_ 33) x37_3 .skip
def x37_5 : XCode := .seq (.region x37_1) x37_4
def x37_6 : List XOper := [oq_ 34 (mv_ 0),
 oq_ 35 (.nilck (t_ 34)),
 oq_ 36 (.faddr 0 (t_ 35)),
 oq_ 37 (.load .one 1 (t_ 36)),
 oq_ 38 (mv_ 1),
 oq_ 39 (mv_ 1),
 oq_ 40 (mv_ 2),
 oq_ 41 (.bin .add (t_ 39) (t_ 40)),
 oq_ 42 (.slS 1 (t_ 37) (some (t_ 38)) (some (t_ 41))),
 oc_ 43 50 [(t_ 42)],
 oq_ 6 (mv_ 43),
 oq_ 7 (.mv (ci_ 0))]
def x37_7 : XCode := .seq (.region x37_6) .ret
def x37_8 : XCode := .seq x37_5 x37_7
def x37_9 : XCode := .seq (.region x37_0) x37_8
def x37 : XCode := x37_9
theorem fx37 : fnx Try.prog 37 = some (44, [(6, none), (7, none)], x37) := by kernel_rfl
def x43_0 : List XOper := [oq_ 0 (.mv (.const (.map none)))]
def x43_1 : List XOper := [oq_ 3 (.mkmap 3 104 (.agg #[(.int .u8 0), (.int .u32 0), (.int .u32 0), (.int .u32 0)])),
 oq_ 1 (.new [(.map none)]),
 on_ (.store 1 (t_ 1) (t_ 3))]
def x43_2 : List XOper := [oq_ 4 (.mkfunc (.func 57) 0 [(t_ 1)]),
 oq_ 2 (mv_ 4)]
def x43_3 : List XOper := [oq_ 5 (mv_ 2),
 oq_ 6 (.build [(.int .u32 0), (.int .u32 0), (.int .u32 0)] [(0, 1, (.const (.int .u32 1)))]),
 oq_ 7 (.build [(.int .u32 0), (.int .u32 0), (.int .u32 0)] [(0, 1, (.const (.int .u32 2))), (1, 1, (.const (.int .u32 0))), (2, 1, (.const (.int .u32 32)))]),
 oq_ 8 (.build [(.int .u32 0), (.int .u32 0), (.int .u32 0)] [(0, 1, (.const (.int .u32 3))), (1, 1, (.const (.int .u32 1)))]),
 oq_ 9 (.build [(.int .u32 0), (.int .u32 0), (.int .u32 0)] [(0, 1, (.const (.int .u32 4))), (1, 1, (.const (.int .u32 2)))]),
 oq_ 10 (.build [(.int .u32 0), (.int .u32 0), (.int .u32 0)] [(0, 1, (.const (.int .u32 5))), (1, 1, (.const (.int .u32 3)))]),
 oq_ 11 (.build [(.int .u32 0), (.int .u32 0), (.int .u32 0)] [(0, 1, (.const (.int .u32 6))), (1, 1, (.const (.int .u32 4)))]),
 oq_ 12 (.build [(.int .u32 0), (.int .u32 0), (.int .u32 0)] [(0, 1, (.const (.int .u32 7))), (1, 1, (.const (.int .u32 5)))]),
 oq_ 13 (.build [(.int .u32 0), (.int .u32 0), (.int .u32 0)] [(0, 1, (.const (.int .u32 8))), (1, 1, (.const (.int .u32 5))), (2, 1, (.const (.int .u32 32)))]),
 oq_ 14 (.build [(.int .u32 0), (.int .u32 0), (.int .u32 0)] [(0, 1, (.const (.int .u32 9))), (1, 1, (.const (.int .u32 6)))]),
 oq_ 15 (.build [(.int .u32 0), (.int .u32 0), (.int .u32 0)] [(0, 1, (.const (.int .u32 10))), (1, 1, (.const (.int .u32 7)))]),
 oq_ 16 (.mkslice [(.int .u32 0), (.int .u32 0), (.int .u32 0)] 10 [(0, (t_ 6)), (1, (t_ 7)), (2, (t_ 8)), (3, (t_ 9)), (4, (t_ 10)), (5, (t_ 11)), (6, (t_ 12)), (7, (t_ 13)), (8, (t_ 14)), (9, (t_ 15))]),
 ⟨(some 17), .callV (t_ 5) [(.const (.int .u8 82)), (.const (.int .u32 51)), (t_ 16)], none⟩]
def x43_4 : List XOper := [oq_ 18 (mv_ 2),
 oq_ 19 (.build [(.int .u32 0), (.int .u32 0), (.int .u32 0)] [(0, 1, (.const (.int .u32 11))), (1, 1, (.const (.int .u32 0))), (2, 1, (.const (.int .u32 1)))]),
 oq_ 20 (.build [(.int .u32 0), (.int .u32 0), (.int .u32 0)] [(0, 1, (.const (.int .u32 12))), (1, 1, (.const (.int .u32 1))), (2, 1, (.const (.int .u32 1)))]),
 oq_ 21 (.build [(.int .u32 0), (.int .u32 0), (.int .u32 0)] [(0, 1, (.const (.int .u32 13))), (1, 1, (.const (.int .u32 3))), (2, 1, (.const (.int .u32 1)))]),
 oq_ 22 (.build [(.int .u32 0), (.int .u32 0), (.int .u32 0)] [(0, 1, (.const (.int .u32 14))), (1, 1, (.const (.int .u32 4))), (2, 1, (.const (.int .u32 1)))]),
 oq_ 23 (.build [(.int .u32 0), (.int .u32 0), (.int .u32 0)] [(0, 1, (.const (.int .u32 15))), (1, 1, (.const (.int .u32 5))), (2, 1, (.const (.int .u32 1)))]),
 oq_ 24 (.build [(.int .u32 0), (.int .u32 0), (.int .u32 0)] [(0, 1, (.const (.int .u32 16))), (1, 1, (.const (.int .u32 6))), (2, 1, (.const (.int .u32 1)))]),
 oq_ 25 (.build [(.int .u32 0), (.int .u32 0), (.int .u32 0)] [(0, 1, (.const (.int .u32 17))), (1, 1, (.const (.int .u32 7))), (2, 1, (.const (.int .u32 1)))]),
 oq_ 26 (.mkslice [(.int .u32 0), (.int .u32 0), (.int .u32 0)] 7 [(0, (t_ 19)), (1, (t_ 20)), (2, (t_ 21)), (3, (t_ 22)), (4, (t_ 23)), (5, (t_ 24)), (6, (t_ 25))]),
 ⟨(some 27), .callV (t_ 18) [(.const (.int .u8 82)), (.const (.int .u32 51)), (t_ 26)], none⟩]
def x43_5 : List XOper := [oq_ 28 (mv_ 2),
 oq_ 29 (.build [(.int .u32 0), (.int .u32 0), (.int .u32 0)] [(0, 1, (.const (.int .u32 18)))]),
 oq_ 30 (.build [(.int .u32 0), (.int .u32 0), (.int .u32 0)] [(0, 1, (.const (.int .u32 19))), (1, 1, (.const (.int .u32 0))), (2, 1, (.const (.int .u32 32)))]),
 oq_ 31 (.build [(.int .u32 0), (.int .u32 0), (.int .u32 0)] [(0, 1, (.const (.int .u32 20))), (1, 1, (.const (.int .u32 1)))]),
 oq_ 32 (.build [(.int .u32 0), (.int .u32 0), (.int .u32 0)] [(0, 1, (.const (.int .u32 21))), (1, 1, (.const (.int .u32 5)))]),
 oq_ 33 (.build [(.int .u32 0), (.int .u32 0), (.int .u32 0)] [(0, 1, (.const (.int .u32 22))), (1, 1, (.const (.int .u32 5))), (2, 1, (.const (.int .u32 32)))]),
 oq_ 34 (.build [(.int .u32 0), (.int .u32 0), (.int .u32 0)] [(0, 1, (.const (.int .u32 23))), (1, 1, (.const (.int .u32 0))), (2, 1, (.const (.int .u32 1)))]),
 oq_ 35 (.build [(.int .u32 0), (.int .u32 0), (.int .u32 0)] [(0, 1, (.const (.int .u32 24))), (1, 1, (.const (.int .u32 4))), (2, 1, (.const (.int .u32 1)))]),
 oq_ 36 (.build [(.int .u32 0), (.int .u32 0), (.int .u32 0)] [(0, 1, (.const (.int .u32 25))), (1, 1, (.const (.int .u32 5))), (2, 1, (.const (.int .u32 1)))]),
 oq_ 37 (.build [(.int .u32 0), (.int .u32 0), (.int .u32 0)] [(0, 1, (.const (.int .u32 26))), (1, 1, (.const (.int .u32 6))), (2, 1, (.const (.int .u32 1)))]),
 oq_ 38 (.build [(.int .u32 0), (.int .u32 0), (.int .u32 0)] [(0, 1, (.const (.int .u32 27))), (1, 1, (.const (.int .u32 7))), (2, 1, (.const (.int .u32 1)))]),
 oq_ 39 (.mkslice [(.int .u32 0), (.int .u32 0), (.int .u32 0)] 10 [(0, (t_ 29)), (1, (t_ 30)), (2, (t_ 31)), (3, (t_ 32)), (4, (t_ 33)), (5, (t_ 34)), (6, (t_ 35)), (7, (t_ 36)), (8, (t_ 37)), (9, (t_ 38))]),
 ⟨(some 40), .callV (t_ 28) [(.const (.int .u8 82)), (.const (.int .u32 59)), (t_ 39)], none⟩]
def x43_6 : List XOper := [oq_ 41 (mv_ 2),
 oq_ 42 (.build [(.int .u32 0), (.int .u32 0), (.int .u32 0)] [(0, 1, (.const (.int .u32 28)))]),
 oq_ 43 (.build [(.int .u32 0), (.int .u32 0), (.int .u32 0)] [(0, 1, (.const (.int .u32 29))), (1, 1, (.const (.int .u32 2)))]),
 oq_ 44 (.build [(.int .u32 0), (.int .u32 0), (.int .u32 0)] [(0, 1, (.const (.int .u32 30))), (1, 1, (.const (.int .u32 3)))]),
 oq_ 45 (.build [(.int .u32 0), (.int .u32 0), (.int .u32 0)] [(0, 1, (.const (.int .u32 31))), (1, 1, (.const (.int .u32 4)))]),
 oq_ 46 (.build [(.int .u32 0), (.int .u32 0), (.int .u32 0)] [(0, 1, (.const (.int .u32 32))), (1, 1, (.const (.int .u32 6)))]),
 oq_ 47 (.build [(.int .u32 0), (.int .u32 0), (.int .u32 0)] [(0, 1, (.const (.int .u32 33))), (1, 1, (.const (.int .u32 7)))]),
 oq_ 48 (.mkslice [(.int .u32 0), (.int .u32 0), (.int .u32 0)] 6 [(0, (t_ 42)), (1, (t_ 43)), (2, (t_ 44)), (3, (t_ 45)), (4, (t_ 46)), (5, (t_ 47))]),
 ⟨(some 49), .callV (t_ 41) [(.const (.int .u8 73)), (.const (.int .u32 19)), (t_ 48)], none⟩]
def x43_7 : List XOper := [oq_ 50 (mv_ 2),
 oq_ 51 (.build [(.int .u32 0), (.int .u32 0), (.int .u32 0)] [(0, 1, (.const (.int .u32 34))), (1, 1, (.const (.int .u32 1)))]),
 oq_ 52 (.build [(.int .u32 0), (.int .u32 0), (.int .u32 0)] [(0, 1, (.const (.int .u32 35))), (1, 1, (.const (.int .u32 5)))]),
 oq_ 53 (.build [(.int .u32 0), (.int .u32 0), (.int .u32 0)] [(0, 1, (.const (.int .u32 36))), (1, 1, (.const (.int .u32 5))), (2, 1, (.const (.int .u32 32)))]),
 oq_ 54 (.mkslice [(.int .u32 0), (.int .u32 0), (.int .u32 0)] 3 [(0, (t_ 51)), (1, (t_ 52)), (2, (t_ 53))]),
 ⟨(some 55), .callV (t_ 50) [(.const (.int .u8 84)), (.const (.int .u32 19)), (t_ 54)], none⟩]
def x43_8 : List XOper := [oq_ 56 (mv_ 2),
 oq_ 57 (.build [(.int .u32 0), (.int .u32 0), (.int .u32 0)] [(0, 1, (.const (.int .u32 37)))]),
 oq_ 58 (.mkslice [(.int .u32 0), (.int .u32 0), (.int .u32 0)] 1 [(0, (t_ 57))]),
 ⟨(some 59), .callV (t_ 56) [(.const (.int .u8 73)), (.const (.int .u32 27)), (t_ 58)], none⟩]
def x43_9 : List XOper := [oq_ 60 (mv_ 2),
 oq_ 61 (.build [(.int .u32 0), (.int .u32 0), (.int .u32 0)] [(0, 1, (.const (.int .u32 38)))]),
 oq_ 62 (.build [(.int .u32 0), (.int .u32 0), (.int .u32 0)] [(0, 1, (.const (.int .u32 40))), (1, 1, (.const (.int .u32 2)))]),
 oq_ 63 (.build [(.int .u32 0), (.int .u32 0), (.int .u32 0)] [(0, 1, (.const (.int .u32 41))), (1, 1, (.const (.int .u32 3)))]),
 oq_ 64 (.build [(.int .u32 0), (.int .u32 0), (.int .u32 0)] [(0, 1, (.const (.int .u32 39))), (1, 1, (.const (.int .u32 4)))]),
 oq_ 65 (.mkslice [(.int .u32 0), (.int .u32 0), (.int .u32 0)] 4 [(0, (t_ 61)), (1, (t_ 62)), (2, (t_ 63)), (3, (t_ 64))]),
 ⟨(some 66), .callV (t_ 60) [(.const (.int .u8 73)), (.const (.int .u32 3)), (t_ 65)], none⟩]
def x43_10 : List XOper := [oq_ 67 (mv_ 2),
 oq_ 68 (.build [(.int .u32 0), (.int .u32 0), (.int .u32 0)] [(0, 1, (.const (.int .u32 42)))]),
 oq_ 69 (.build [(.int .u32 0), (.int .u32 0), (.int .u32 0)] [(0, 1, (.const (.int .u32 43))), (1, 1, (.const (.int .u32 2)))]),
 oq_ 70 (.build [(.int .u32 0), (.int .u32 0), (.int .u32 0)] [(0, 1, (.const (.int .u32 44))), (1, 1, (.const (.int .u32 3)))]),
 oq_ 71 (.mkslice [(.int .u32 0), (.int .u32 0), (.int .u32 0)] 3 [(0, (t_ 68)), (1, (t_ 69)), (2, (t_ 70))]),
 ⟨(some 72), .callV (t_ 67) [(.const (.int .u8 83)), (.const (.int .u32 35)), (t_ 71)], none⟩]
def x43_11 : List XOper := [oq_ 73 (mv_ 2),
 oq_ 74 (.build [(.int .u32 0), (.int .u32 0), (.int .u32 0)] [(0, 1, (.const (.int .u32 45)))]),
 oq_ 75 (.build [(.int .u32 0), (.int .u32 0), (.int .u32 0)] [(0, 1, (.const (.int .u32 46))), (1, 1, (.const (.int .u32 1)))]),
 oq_ 76 (.build [(.int .u32 0), (.int .u32 0), (.int .u32 0)] [(0, 1, (.const (.int .u32 47))), (1, 1, (.const (.int .u32 4)))]),
 oq_ 77 (.build [(.int .u32 0), (.int .u32 0), (.int .u32 0)] [(0, 1, (.const (.int .u32 48))), (1, 1, (.const (.int .u32 5)))]),
 oq_ 78 (.build [(.int .u32 0), (.int .u32 0), (.int .u32 0)] [(0, 1, (.const (.int .u32 49))), (1, 1, (.const (.int .u32 6)))]),
 oq_ 79 (.build [(.int .u32 0), (.int .u32 0), (.int .u32 0)] [(0, 1, (.const (.int .u32 50))), (1, 1, (.const (.int .u32 7)))]),
 oq_ 80 (.mkslice [(.int .u32 0), (.int .u32 0), (.int .u32 0)] 6 [(0, (t_ 74)), (1, (t_ 75)), (2, (t_ 76)), (3, (t_ 77)), (4, (t_ 78)), (5, (t_ 79))]),
 ⟨(some 81), .callV (t_ 73) [(.const (.int .u8 66)), (.const (.int .u32 99)), (t_ 80)], none⟩]
def x43_12 : List XOper := [oq_ 82 (mv_ 2),
 oq_ 83 (.build [(.int .u32 0), (.int .u32 0), (.int .u32 0)] [(0, 1, (.const (.int .u32 51)))]),
 oq_ 84 (.mkslice [(.int .u32 0), (.int .u32 0), (.int .u32 0)] 1 [(0, (t_ 83))]),
 ⟨(some 85), .callV (t_ 82) [(.const (.int .u8 85)), (.const (.int .u32 55)), (t_ 84)], none⟩]
def x43_13 : List XOper := [oq_ 86 (mv_ 2),
 oq_ 87 (.build [(.int .u32 0), (.int .u32 0), (.int .u32 0)] [(0, 1, (.const (.int .u32 52)))]),
 oq_ 88 (.mkslice [(.int .u32 0), (.int .u32 0), (.int .u32 0)] 1 [(0, (t_ 87))]),
 ⟨(some 89), .callV (t_ 86) [(.const (.int .u8 85)), (.const (.int .u32 23)), (t_ 88)], none⟩]
def x43_14 : List XOper := [oq_ 90 (mv_ 2),
 oq_ 91 (.build [(.int .u32 0), (.int .u32 0), (.int .u32 0)] [(0, 1, (.const (.int .u32 53)))]),
 oq_ 92 (.mkslice [(.int .u32 0), (.int .u32 0), (.int .u32 0)] 1 [(0, (t_ 91))]),
 ⟨(some 93), .callV (t_ 90) [(.const (.int .u8 74)), (.const (.int .u32 111)), (t_ 92)], none⟩]
def x43_15 : List XOper := [oq_ 94 (mv_ 2),
 oq_ 95 (.build [(.int .u32 0), (.int .u32 0), (.int .u32 0)] [(0, 1, (.const (.int .u32 54)))]),
 oq_ 96 (.mkslice [(.int .u32 0), (.int .u32 0), (.int .u32 0)] 1 [(0, (t_ 95))]),
 ⟨(some 97), .callV (t_ 94) [(.const (.int .u8 73)), (.const (.int .u32 103)), (t_ 96)], none⟩]
def x43_16 : List XOper := [oq_ 98 (mv_ 2),
 oq_ 99 (.build [(.int .u32 0), (.int .u32 0), (.int .u32 0)] [(0, 1, (.const (.int .u32 55)))]),
 oq_ 100 (.mkslice [(.int .u32 0), (.int .u32 0), (.int .u32 0)] 1 [(0, (t_ 99))]),
 ⟨(some 101), .callV (t_ 98) [(.const (.int .u8 78)), (.const (.int .u32 115)), (t_ 100)], none⟩]
def x43_17 : List XOper := [oq_ 102 (.load .one 1 (t_ 1)),
 oq_ 0 (mv_ 102)]
def x43_18 : XCode := .seq (.region x43_17) .ret
def x43_19 : XCode := .seq (.region x43_16) x43_18
def x43_20 : XCode := .seq (.region x43_15) x43_19
def x43_21 : XCode := .seq (.region x43_14) x43_20
def x43_22 : XCode := .seq (.region x43_13) x43_21
def x43_23 : XCode := .seq (.region x43_12) x43_22
def x43_24 : XCode := .seq (.region x43_11) x43_23
def x43_25 : XCode := .seq (.region x43_10) x43_24
def x43_26 : XCode := .seq (.region x43_9) x43_25
def x43_27 : XCode := .seq (.region x43_8) x43_26
def x43_28 : XCode := .seq (.region x43_7) x43_27
def x43_29 : XCode := .seq (.region x43_6) x43_28
def x43_30 : XCode := .seq (.region x43_5) x43_29
def x43_31 : XCode := .seq (.region x43_4) x43_30
def x43_32 : XCode := .seq (.region x43_3) x43_31
def x43_33 : XCode := .seq (.region x43_2) x43_32
def x43_34 : XCode := .seq (.region x43_1) x43_33
def x43_35 : XCode := .seq (.region x43_0) x43_34
def x43 : XCode := x43_35
theorem fx43 : fnx Try.prog 43 = some (103, [(0, none)], x43) := by kernel_rfl
def x44_0 : List XOper := [oq_ 2 (.mv (ci_ 0)),
 oq_ 3 (.mv (ci_ 0))]
def x44_1 : List XOper := [oq_ 4 (mv_ 0)]
def x44_2 : List XOper := [oq_ 6 (.bin .eql (t_ 4) (.const (.int .u8 73))),
 oq_ 5 (mv_ 6)]
def x44_3 : List XOper := [oq_ 7 (.bin .eql (t_ 4) (.const (.int .u8 83))),
 oq_ 5 (mv_ 7)]
def x44_4 : XCode := .cnd (t_ 5) .skip (.region x44_3)
def x44_5 : XCode := .seq (.region x44_2) x44_4
def x44_6 : List XOper := [oq_ 2 (.mv (ci_ (-2048))),
 oq_ 3 (.mv (ci_ 2047))]
def x44_7 : XCode := .seq (.region x44_6) .ret
def x44_8 : List XOper := [oq_ 9 (.bin .eql (t_ 4) (.const (.int .u8 84))),
 oq_ 8 (mv_ 9)]
def x44_9 : List XOper := [oq_ 2 (.mv (ci_ 0)),
 oq_ 3 (.mv (ci_ 63))]
def x44_10 : XCode := .seq (.region x44_9) .ret
def x44_11 : List XOper := [oq_ 11 (.bin .eql (t_ 4) (.const (.int .u8 66))),
 oq_ 10 (mv_ 11)]
def x44_12 : List XOper := [oq_ 2 (.mv (ci_ (-4096))),
 oq_ 3 (.mv (ci_ 4094))]
def x44_13 : XCode := .seq (.region x44_12) .ret
def x44_14 : List XOper := [oq_ 13 (.bin .eql (t_ 4) (.const (.int .u8 85))),
 oq_ 12 (mv_ 13)]
def x44_15 : List XOper := [oq_ 2 (.mv (ci_ (-524288))),
 oq_ 3 (.mv (ci_ 524287))]
def x44_16 : XCode := .seq (.region x44_15) .ret
def x44_17 : List XOper := [oq_ 15 (.bin .eql (t_ 4) (.const (.int .u8 74))),
 oq_ 14 (mv_ 15)]
def x44_18 : List XOper := [oq_ 2 (.mv (ci_ (-1048576))),
 oq_ 3 (.mv (ci_ 1048574))]
def x44_19 : XCode := .seq (.region x44_18) .ret
def x44_20 : XCode := .cnd (t_ 14) x44_19 .skip
def x44_21 : XCode := .seq (.region x44_17) x44_20
def x44_22 : XCode := .cnd (t_ 12) x44_16 x44_21
def x44_23 : XCode := .seq (.region x44_14) x44_22
def x44_24 : XCode := .cnd (t_ 10) x44_13 x44_23
def x44_25 : XCode := .seq (.region x44_11) x44_24
def x44_26 : XCode := .cnd (t_ 8) x44_10 x44_25
def x44_27 : XCode := .seq (.region x44_8) x44_26
def x44_28 : XCode := .cnd (t_ 5) x44_7 x44_27
def x44_29 : XCode := .seq x44_5 x44_28
def x44_30 : XCode := .block 0 x44_29
def x44_31 : XCode := .seq (.region x44_1) x44_30
def x44_32 : List XOper := [oq_ 2 (.mv (ci_ 1)),
 oq_ 3 (.mv (ci_ 0))]
def x44_33 : XCode := .seq (.region x44_32) .ret
def x44_34 : XCode := .seq x44_31 x44_33
def x44_35 : XCode := .seq (.region x44_0) x44_34
def x44 : XCode := x44_35
theorem fx44 : fnx Try.prog 44 = some (16, [(2, none), (3, none)], x44) := by kernel_rfl
def x45_0 : List XOper := [oq_ 2 (.new [(.bool false), (.bool false), (.bool false)])]
def x45_1 : List XOper := [oq_ 3 (mv_ 0)]
def x45_2 : List XOper := [oq_ 5 (.bin .eql (t_ 3) (.const (.int .u8 82))),
 oq_ 4 (mv_ 5)]
def x45_3 : List XOper := [oq_ 6 (.build [(.bool false), (.bool false), (.bool false)] [(0, 1, (.const (.bool true))), (1, 1, (.const (.bool true))), (2, 1, (.const (.bool true)))]),
 on_ (.store 3 (t_ 2) (t_ 6))]
def x45_4 : XCode := .seq (.region x45_3) .ret
def x45_5 : List XOper := [oq_ 8 (.bin .eql (t_ 3) (.const (.int .u8 73))),
 oq_ 7 (mv_ 8)]
def x45_6 : List XOper := [oq_ 9 (.bin .eql (t_ 3) (.const (.int .u8 84))),
 oq_ 7 (mv_ 9)]
def x45_7 : XCode := .cnd (t_ 7) .skip (.region x45_6)
def x45_8 : XCode := .seq (.region x45_5) x45_7
def x45_9 : List XOper := [oq_ 10 (.build [(.bool false), (.bool false), (.bool false)] [(0, 1, (.const (.bool true))), (1, 1, (.const (.bool true))), (2, 1, (.const (.bool false)))]),
 on_ (.store 3 (t_ 2) (t_ 10))]
def x45_10 : XCode := .seq (.region x45_9) .ret
def x45_11 : List XOper := [oq_ 12 (.bin .eql (t_ 3) (.const (.int .u8 83))),
 oq_ 11 (mv_ 12)]
def x45_12 : List XOper := [oq_ 13 (.bin .eql (t_ 3) (.const (.int .u8 66))),
 oq_ 11 (mv_ 13)]
def x45_13 : XCode := .cnd (t_ 11) .skip (.region x45_12)
def x45_14 : XCode := .seq (.region x45_11) x45_13
def x45_15 : List XOper := [oq_ 14 (.build [(.bool false), (.bool false), (.bool false)] [(0, 1, (.const (.bool false))), (1, 1, (.const (.bool true))), (2, 1, (.const (.bool true)))]),
 on_ (.store 3 (t_ 2) (t_ 14))]
def x45_16 : XCode := .seq (.region x45_15) .ret
def x45_17 : List XOper := [oq_ 16 (.bin .eql (t_ 3) (.const (.int .u8 85))),
 oq_ 15 (mv_ 16)]
def x45_18 : List XOper := [oq_ 17 (.bin .eql (t_ 3) (.const (.int .u8 74))),
 oq_ 15 (mv_ 17)]
def x45_19 : XCode := .cnd (t_ 15) .skip (.region x45_18)
def x45_20 : XCode := .seq (.region x45_17) x45_19
def x45_21 : List XOper := [oq_ 18 (.build [(.bool false), (.bool false), (.bool false)] [(0, 1, (.const (.bool true))), (1, 1, (.const (.bool false))), (2, 1, (.const (.bool false)))]),
 on_ (.store 3 (t_ 2) (t_ 18))]
def x45_22 : XCode := .seq (.region x45_21) .ret
def x45_23 : XCode := .cnd (t_ 15) x45_22 .skip
def x45_24 : XCode := .seq x45_20 x45_23
def x45_25 : XCode := .cnd (t_ 11) x45_16 x45_24
def x45_26 : XCode := .seq x45_14 x45_25
def x45_27 : XCode := .cnd (t_ 7) x45_10 x45_26
def x45_28 : XCode := .seq x45_8 x45_27
def x45_29 : XCode := .cnd (t_ 4) x45_4 x45_28
def x45_30 : XCode := .seq (.region x45_2) x45_29
def x45_31 : XCode := .block 0 x45_30
def x45_32 : XCode := .seq (.region x45_1) x45_31
def x45_33 : List XOper := [oq_ 19 (.build [(.bool false), (.bool false), (.bool false)] []),
 on_ (.store 3 (t_ 2) (t_ 19))]
def x45_34 : XCode := .seq (.region x45_33) .ret
def x45_35 : XCode := .seq x45_32 x45_34
def x45_36 : XCode := .seq (.region x45_0) x45_35
def x45 : XCode := x45_36
theorem fx45 : fnx Try.prog 45 = some (20, [(2, (some (.agg, 3)))], x45) := by kernel_rfl
def x46_0 : List XOper := [oq_ 2 (.mv (.const (.slice none 0 0)))]
def x46_1 : List XOper := [oq_ 3 (mv_ 0)]
def x46_2 : List XOper := [oq_ 5 (.bin .eql (t_ 3) (.const (.int .u8 73))),
 oq_ 4 (mv_ 5)]
def x46_3 : List XOper := [oq_ 6 (.build [(.int .u64 0), (.int .u64 0), (.int .u64 0)] [(0, 1, (.const (.int .u64 0))), (1, 1, (.const (.int .u64 12))), (2, 1, (.const (.int .u64 20)))]),
 oq_ 7 (.mkslice [(.int .u64 0), (.int .u64 0), (.int .u64 0)] 1 [(0, (t_ 6))]),
 oq_ 2 (mv_ 7)]
def x46_4 : XCode := .seq (.region x46_3) .ret
def x46_5 : List XOper := [oq_ 9 (.bin .eql (t_ 3) (.const (.int .u8 84))),
 oq_ 8 (mv_ 9)]
def x46_6 : List XOper := [oq_ 10 (.build [(.int .u64 0), (.int .u64 0), (.int .u64 0)] [(0, 1, (.const (.int .u64 0))), (1, 1, (.const (.int .u64 6))), (2, 1, (.const (.int .u64 20)))]),
 oq_ 11 (.mkslice [(.int .u64 0), (.int .u64 0), (.int .u64 0)] 1 [(0, (t_ 10))]),
 oq_ 2 (mv_ 11)]
def x46_7 : XCode := .seq (.region x46_6) .ret
def x46_8 : List XOper := [oq_ 13 (.bin .eql (t_ 3) (.const (.int .u8 83))),
 oq_ 12 (mv_ 13)]
def x46_9 : List XOper := [oq_ 14 (.build [(.int .u64 0), (.int .u64 0), (.int .u64 0)] [(0, 1, (.const (.int .u64 0))), (1, 1, (.const (.int .u64 5))), (2, 1, (.const (.int .u64 7)))]),
 oq_ 15 (.build [(.int .u64 0), (.int .u64 0), (.int .u64 0)] [(0, 1, (.const (.int .u64 5))), (1, 1, (.const (.int .u64 7))), (2, 1, (.const (.int .u64 25)))]),
 oq_ 16 (.mkslice [(.int .u64 0), (.int .u64 0), (.int .u64 0)] 2 [(0, (t_ 14)), (1, (t_ 15))]),
 oq_ 2 (mv_ 16)]
def x46_10 : XCode := .seq (.region x46_9) .ret
def x46_11 : List XOper := [oq_ 18 (.bin .eql (t_ 3) (.const (.int .u8 66))),
 oq_ 17 (mv_ 18)]
def x46_12 : List XOper := [oq_ 19 (.build [(.int .u64 0), (.int .u64 0), (.int .u64 0)] [(0, 1, (.const (.int .u64 11))), (1, 1, (.const (.int .u64 1))), (2, 1, (.const (.int .u64 7)))]),
 oq_ 20 (.build [(.int .u64 0), (.int .u64 0), (.int .u64 0)] [(0, 1, (.const (.int .u64 1))), (1, 1, (.const (.int .u64 4))), (2, 1, (.const (.int .u64 8)))]),
 oq_ 21 (.build [(.int .u64 0), (.int .u64 0), (.int .u64 0)] [(0, 1, (.const (.int .u64 5))), (1, 1, (.const (.int .u64 6))), (2, 1, (.const (.int .u64 25)))]),
 oq_ 22 (.build [(.int .u64 0), (.int .u64 0), (.int .u64 0)] [(0, 1, (.const (.int .u64 12))), (1, 1, (.const (.int .u64 1))), (2, 1, (.const (.int .u64 31)))]),
 oq_ 23 (.mkslice [(.int .u64 0), (.int .u64 0), (.int .u64 0)] 4 [(0, (t_ 19)), (1, (t_ 20)), (2, (t_ 21)), (3, (t_ 22))]),
 oq_ 2 (mv_ 23)]
def x46_13 : XCode := .seq (.region x46_12) .ret
def x46_14 : List XOper := [oq_ 25 (.bin .eql (t_ 3) (.const (.int .u8 85))),
 oq_ 24 (mv_ 25)]
def x46_15 : List XOper := [oq_ 26 (.build [(.int .u64 0), (.int .u64 0), (.int .u64 0)] [(0, 1, (.const (.int .u64 0))), (1, 1, (.const (.int .u64 20))), (2, 1, (.const (.int .u64 12)))]),
 oq_ 27 (.mkslice [(.int .u64 0), (.int .u64 0), (.int .u64 0)] 1 [(0, (t_ 26))]),
 oq_ 2 (mv_ 27)]
def x46_16 : XCode := .seq (.region x46_15) .ret
def x46_17 : List XOper := [oq_ 29 (.bin .eql (t_ 3) (.const (.int .u8 74))),
 oq_ 28 (mv_ 29)]
def x46_18 : List XOper := [oq_ 30 (.build [(.int .u64 0), (.int .u64 0), (.int .u64 0)] [(0, 1, (.const (.int .u64 12))), (1, 1, (.const (.int .u64 8))), (2, 1, (.const (.int .u64 12)))]),
 oq_ 31 (.build [(.int .u64 0), (.int .u64 0), (.int .u64 0)] [(0, 1, (.const (.int .u64 11))), (1, 1, (.const (.int .u64 1))), (2, 1, (.const (.int .u64 20)))]),
 oq_ 32 (.build [(.int .u64 0), (.int .u64 0), (.int .u64 0)] [(0, 1, (.const (.int .u64 1))), (1, 1, (.const (.int .u64 10))), (2, 1, (.const (.int .u64 21)))]),
 oq_ 33 (.build [(.int .u64 0), (.int .u64 0), (.int .u64 0)] [(0, 1, (.const (.int .u64 20))), (1, 1, (.const (.int .u64 1))), (2, 1, (.const (.int .u64 31)))]),
 oq_ 34 (.mkslice [(.int .u64 0), (.int .u64 0), (.int .u64 0)] 4 [(0, (t_ 30)), (1, (t_ 31)), (2, (t_ 32)), (3, (t_ 33))]),
 oq_ 2 (mv_ 34)]
def x46_19 : XCode := .seq (.region x46_18) .ret
def x46_20 : XCode := .cnd (t_ 28) x46_19 .skip
def x46_21 : XCode := .seq (.region x46_17) x46_20
def x46_22 : XCode := .cnd (t_ 24) x46_16 x46_21
def x46_23 : XCode := .seq (.region x46_14) x46_22
def x46_24 : XCode := .cnd (t_ 17) x46_13 x46_23
def x46_25 : XCode := .seq (.region x46_11) x46_24
def x46_26 : XCode := .cnd (t_ 12) x46_10 x46_25
def x46_27 : XCode := .seq (.region x46_8) x46_26
def x46_28 : XCode := .cnd (t_ 8) x46_7 x46_27
def x46_29 : XCode := .seq (.region x46_5) x46_28
def x46_30 : XCode := .cnd (t_ 4) x46_4 x46_29
def x46_31 : XCode := .seq (.region x46_2) x46_30
def x46_32 : XCode := .block 0 x46_31
def x46_33 : XCode := .seq (.region x46_1) x46_32
def x46_34 : List XOper := [oq_ 2 (.mv (.const (.slice none 0 0)))]
def x46_35 : XCode := .seq (.region x46_34) .ret
def x46_36 : XCode := .seq x46_33 x46_35
def x46_37 : XCode := .seq (.region x46_0) x46_36
def x46 : XCode := x46_37
theorem fx46 : fnx Try.prog 46 = some (35, [(2, none)], x46) := by kernel_rfl
def x47_0 : List XOper := [oq_ 1 (.box (t_ 0)),
 oq_ 2 (.mv (.const (.int .u32 0))),
 oq_ 3 (.mv (ci_ 0))]
def x47_1 : List XOper := [oq_ 14 (.faddr 0 (t_ 1)),
 oq_ 15 (.load (.int .i64) 1 (t_ 14)),
 oc_ 16 58 [(t_ 15)],
 oq_ 4 (.new [(.int .u8 0), (.int .i64 0), (.int .i64 0), (.int .i64 0)]),
 on_ (.store 4 (t_ 4) (t_ 16))]
def x47_2 : List XOper := [oq_ 17 (.faddr 0 (t_ 4)),
 oq_ 18 (.load (.int .u8) 1 (t_ 17)),
 oq_ 19 (.bin .neq (t_ 18) (.const (.int .u8 83))),
 oq_ 20 (mv_ 19),
 og_ 21 20 true (.faddr 0 (t_ 4)),
 og_ 22 20 true (.load (.int .u8) 1 (t_ 21)),
 og_ 23 20 true (.bin .neq (t_ 22) (.const (.int .u8 66))),
 ⟨(some 24), .pick (t_ 20) (t_ 23) (.const (.bool false)), none⟩,
 oq_ 25 (.faddr 0 (t_ 4)),
 oq_ 26 (.load (.int .u8) 1 (t_ 25)),
 oq_ 27 (.bin .neq (t_ 26) (.const (.int .u8 85))),
 oq_ 28 (mv_ 27),
 og_ 29 28 true (.faddr 0 (t_ 4)),
 og_ 30 28 true (.load (.int .u8) 1 (t_ 29)),
 og_ 31 28 true (.bin .neq (t_ 30) (.const (.int .u8 74))),
 ⟨(some 32), .pick (t_ 28) (t_ 31) (.const (.bool false)), none⟩,
 oq_ 33 (.faddr 0 (t_ 4)),
 oq_ 34 (.load (.int .u8) 1 (t_ 33)),
 oq_ 35 (.bin .eql (t_ 34) (.const (.int .u8 82))),
 oq_ 36 (mv_ 35),
 og_ 37 36 false (.faddr 0 (t_ 4)),
 og_ 38 36 false (.load (.int .u8) 1 (t_ 37)),
 og_ 39 36 false (.bin .eql (t_ 38) (.const (.int .u8 83))),
 ⟨(some 40), .pick (t_ 36) (.const (.bool true)) (t_ 39), none⟩,
 oq_ 41 (mv_ 40),
 og_ 42 41 false (.faddr 0 (t_ 4)),
 og_ 43 41 false (.load (.int .u8) 1 (t_ 42)),
 og_ 44 41 false (.bin .eql (t_ 43) (.const (.int .u8 66))),
 ⟨(some 45), .pick (t_ 41) (.const (.bool true)) (t_ 44), none⟩,
 oq_ 5 (mv_ 24),
 oq_ 6 (mv_ 32),
 oq_ 7 (mv_ 45)]
def x47_3 : List XOper := [oq_ 47 (.faddr 0 (t_ 4)),
 oq_ 48 (.load (.int .u8) 1 (t_ 47)),
 oc_ 49 59 [(t_ 48)],
 oq_ 46 (mv_ 49),
 oq_ 50 (.ext (t_ 46) 0),
 oq_ 51 (.ext (t_ 46) 1),
 oq_ 8 (mv_ 50),
 oq_ 9 (mv_ 51)]
def x47_4 : List XOper := [oq_ 52 (.faddr 0 (t_ 4)),
 oq_ 53 (.load (.int .u8) 1 (t_ 52)),
 oq_ 54 (.bin .eql (t_ 53) (.const (.int .u8 0)))]
def x47_5 : List XOper := [oq_ 2 (.mv (.const (.int .u32 0))),
 oq_ 3 (.mv (ci_ 2))]
def x47_6 : XCode := .seq (.region x47_5) .ret
def x47_7 : XCode := .cnd (t_ 54) x47_6 .skip
def x47_8 : XCode := .seq (.region x47_4) x47_7
def x47_9 : List XOper := [oq_ 55 (.faddr 0 (t_ 4)),
 oq_ 56 (.load (.int .u8) 1 (t_ 55)),
 oq_ 57 (.bin .eql (t_ 56) (.const (.int .u8 78)))]
def x47_10 : List XOper := [oq_ 5 (.mv (.const (.bool false)))]
def x47_11 : List XOper := [oq_ 6 (.mv (.const (.bool false)))]
def x47_12 : XCode := .seq (.region x47_10) (.region x47_11)
def x47_13 : XCode := .cnd (t_ 57) x47_12 .skip
def x47_14 : XCode := .seq (.region x47_9) x47_13
def x47_15 : List XOper := [oq_ 58 (mv_ 5),
 oq_ 59 (.un .not (t_ 58)),
 oq_ 60 (mv_ 59),
 og_ 61 60 true (.faddr 1 (t_ 1)),
 og_ 62 60 true (.load (.int .i64) 1 (t_ 61)),
 og_ 63 60 true (.bin .neq (t_ 62) (ci_ 0)),
 ⟨(some 64), .pick (t_ 60) (t_ 63) (.const (.bool false)), none⟩,
 oq_ 65 (mv_ 64),
 og_ 66 65 false (mv_ 6),
 og_ 67 65 false (.un .not (t_ 66)),
 og_ 68 65 false (mv_ 67),
 og_ 69 68 true (.faddr 2 (t_ 1)),
 og_ 70 68 true (.load (.int .i64) 1 (t_ 69)),
 og_ 71 68 true (.bin .neq (t_ 70) (ci_ 0)),
 ⟨(some 72), .pick (t_ 68) (t_ 71) (.const (.bool false)), (some (65, false))⟩,
 ⟨(some 73), .pick (t_ 65) (.const (.bool true)) (t_ 72), none⟩,
 oq_ 74 (mv_ 73),
 og_ 75 74 false (mv_ 7),
 og_ 76 74 false (.un .not (t_ 75)),
 og_ 77 74 false (mv_ 76),
 og_ 78 77 true (.faddr 3 (t_ 1)),
 og_ 79 77 true (.load (.int .i64) 1 (t_ 78)),
 og_ 80 77 true (.bin .neq (t_ 79) (ci_ 0)),
 ⟨(some 81), .pick (t_ 77) (t_ 80) (.const (.bool false)), (some (74, false))⟩,
 ⟨(some 82), .pick (t_ 74) (.const (.bool true)) (t_ 81), none⟩,
 oq_ 83 (mv_ 82),
 og_ 84 83 false (mv_ 8),
 og_ 85 83 false (mv_ 9),
 og_ 86 83 false (.bin .gtr (t_ 84) (t_ 85)),
 og_ 87 83 false (mv_ 86),
 og_ 88 87 true (.faddr 4 (t_ 1)),
 og_ 89 87 true (.load (.int .i64) 1 (t_ 88)),
 og_ 90 87 true (.bin .neq (t_ 89) (ci_ 0)),
 ⟨(some 91), .pick (t_ 87) (t_ 90) (.const (.bool false)), (some (83, false))⟩,
 ⟨(some 92), .pick (t_ 83) (.const (.bool true)) (t_ 91), none⟩]
def x47_16 : List XOper := [oq_ 2 (.mv (.const (.int .u32 0))),
 oq_ 3 (.mv (ci_ 2))]
def x47_17 : XCode := .seq (.region x47_16) .ret
def x47_18 : XCode := .cnd (t_ 92) x47_17 .skip
def x47_19 : XCode := .seq (.region x47_15) x47_18
def x47_20 : List XOper := [oq_ 93 (.faddr 1 (t_ 1)),
 oq_ 94 (.load (.int .i64) 1 (t_ 93)),
 oq_ 95 (.bin .lss (t_ 94) (ci_ 0)),
 oq_ 96 (mv_ 95),
 og_ 97 96 false (.faddr 1 (t_ 1)),
 og_ 98 96 false (.load (.int .i64) 1 (t_ 97)),
 og_ 99 96 false (.bin .gtr (t_ 98) (ci_ 31)),
 ⟨(some 100), .pick (t_ 96) (.const (.bool true)) (t_ 99), none⟩,
 oq_ 101 (mv_ 100),
 og_ 102 101 false (.faddr 2 (t_ 1)),
 og_ 103 101 false (.load (.int .i64) 1 (t_ 102)),
 og_ 104 101 false (.bin .lss (t_ 103) (ci_ 0)),
 ⟨(some 105), .pick (t_ 101) (.const (.bool true)) (t_ 104), none⟩,
 oq_ 106 (mv_ 105),
 og_ 107 106 false (.faddr 2 (t_ 1)),
 og_ 108 106 false (.load (.int .i64) 1 (t_ 107)),
 og_ 109 106 false (.bin .gtr (t_ 108) (ci_ 31)),
 ⟨(some 110), .pick (t_ 106) (.const (.bool true)) (t_ 109), none⟩,
 oq_ 111 (mv_ 110),
 og_ 112 111 false (.faddr 3 (t_ 1)),
 og_ 113 111 false (.load (.int .i64) 1 (t_ 112)),
 og_ 114 111 false (.bin .lss (t_ 113) (ci_ 0)),
 ⟨(some 115), .pick (t_ 111) (.const (.bool true)) (t_ 114), none⟩,
 oq_ 116 (mv_ 115),
 og_ 117 116 false (.faddr 3 (t_ 1)),
 og_ 118 116 false (.load (.int .i64) 1 (t_ 117)),
 og_ 119 116 false (.bin .gtr (t_ 118) (ci_ 31)),
 ⟨(some 120), .pick (t_ 116) (.const (.bool true)) (t_ 119), none⟩]
def x47_21 : List XOper := [oq_ 2 (.mv (.const (.int .u32 0))),
 oq_ 3 (.mv (ci_ 1))]
def x47_22 : XCode := .seq (.region x47_21) .ret
def x47_23 : XCode := .cnd (t_ 120) x47_22 .skip
def x47_24 : XCode := .seq (.region x47_20) x47_23
def x47_25 : List XOper := [oq_ 121 (mv_ 8),
 oq_ 122 (mv_ 9),
 oq_ 123 (.bin .leq (t_ 121) (t_ 122)),
 oq_ 124 (mv_ 123),
 og_ 125 124 true (.faddr 4 (t_ 1)),
 og_ 126 124 true (.load (.int .i64) 1 (t_ 125)),
 og_ 127 124 true (mv_ 8),
 og_ 128 124 true (.bin .lss (t_ 126) (t_ 127)),
 og_ 129 124 true (mv_ 128),
 og_ 130 129 false (.faddr 4 (t_ 1)),
 og_ 131 129 false (.load (.int .i64) 1 (t_ 130)),
 og_ 132 129 false (mv_ 9),
 og_ 133 129 false (.bin .gtr (t_ 131) (t_ 132)),
 ⟨(some 134), .pick (t_ 129) (.const (.bool true)) (t_ 133), (some (124, true))⟩,
 og_ 135 124 true (mv_ 134),
 og_ 136 135 false (.faddr 0 (t_ 4)),
 og_ 137 135 false (.load (.int .u8) 1 (t_ 136)),
 og_ 138 135 false (.bin .eql (t_ 137) (.const (.int .u8 66))),
 og_ 139 135 false (mv_ 138),
 og_ 140 139 false (.faddr 0 (t_ 4)),
 og_ 141 139 false (.load (.int .u8) 1 (t_ 140)),
 og_ 142 139 false (.bin .eql (t_ 141) (.const (.int .u8 74))),
 ⟨(some 143), .pick (t_ 139) (.const (.bool true)) (t_ 142), (some (135, false))⟩,
 og_ 144 135 false (mv_ 143),
 og_ 145 144 true (.faddr 4 (t_ 1)),
 og_ 146 144 true (.load (.int .i64) 1 (t_ 145)),
 og_ 147 144 true (.bin .rem (t_ 146) (ci_ 2)),
 og_ 148 144 true (.bin .neq (t_ 147) (ci_ 0)),
 ⟨(some 149), .pick (t_ 144) (t_ 148) (.const (.bool false)), (some (135, false))⟩,
 ⟨(some 150), .pick (t_ 135) (.const (.bool true)) (t_ 149), (some (124, true))⟩,
 ⟨(some 151), .pick (t_ 124) (t_ 150) (.const (.bool false)), none⟩]
def x47_26 : List XOper := [oq_ 2 (.mv (.const (.int .u32 0))),
 oq_ 3 (.mv (ci_ 1))]
def x47_27 : XCode := .seq (.region x47_26) .ret
def x47_28 : XCode := .cnd (t_ 151) x47_27 .skip
def x47_29 : XCode := .seq (.region x47_25) x47_28
def x47_30 : List XOper := [oq_ 152 (.faddr 4 (t_ 1)),
 oq_ 153 (.load (.int .i64) 1 (t_ 152)),
 oq_ 10 (mv_ 153)]
def x47_31 : List XOper := [oq_ 154 (.faddr 1 (t_ 1)),
 oq_ 155 (.load (.int .i64) 1 (t_ 154)),
 oq_ 156 (.faddr 3 (t_ 4)),
 oq_ 157 (.load (.int .i64) 1 (t_ 156)),
 oq_ 11 (mv_ 155),
 oq_ 12 (mv_ 157)]
def x47_32 : List XOper := [oq_ 158 (.faddr 3 (t_ 1)),
 oq_ 159 (.load (.int .i64) 1 (t_ 158)),
 oq_ 13 (mv_ 159)]
def x47_33 : List XOper := [oq_ 160 (.faddr 0 (t_ 4)),
 oq_ 161 (.load (.int .u8) 1 (t_ 160))]
def x47_34 : List XOper := [oq_ 163 (.bin .eql (t_ 161) (.const (.int .u8 73))),
 oq_ 162 (mv_ 163)]
def x47_35 : List XOper := [oq_ 164 (mv_ 10),
 oc_ 165 60 [(t_ 164), (ci_ 0), (ci_ 5)],
 oq_ 13 (mv_ 165)]
def x47_36 : List XOper := [oq_ 166 (mv_ 10),
 oc_ 167 60 [(t_ 166), (ci_ 5), (ci_ 7)],
 oq_ 12 (mv_ 167)]
def x47_37 : XCode := .seq (.region x47_35) (.region x47_36)
def x47_38 : List XOper := [oq_ 169 (.bin .eql (t_ 161) (.const (.int .u8 84))),
 oq_ 168 (mv_ 169)]
def x47_39 : List XOper := [oq_ 170 (mv_ 10),
 oq_ 171 (.bin .rem (t_ 170) (ci_ 32)),
 oq_ 13 (mv_ 171)]
def x47_40 : List XOper := [oq_ 172 (.faddr 3 (t_ 4)),
 oq_ 173 (.load (.int .i64) 1 (t_ 172)),
 oq_ 174 (mv_ 10),
 oq_ 175 (.bin .quo (t_ 174) (ci_ 32)),
 oq_ 176 (.bin .add (t_ 173) (t_ 175)),
 oq_ 12 (mv_ 176)]
def x47_41 : XCode := .seq (.region x47_39) (.region x47_40)
def x47_42 : List XOper := [oq_ 178 (.bin .eql (t_ 161) (.const (.int .u8 83))),
 oq_ 177 (mv_ 178)]
def x47_43 : List XOper := [oq_ 179 (mv_ 10),
 oc_ 180 60 [(t_ 179), (ci_ 0), (ci_ 5)],
 oq_ 11 (mv_ 180)]
def x47_44 : List XOper := [oq_ 181 (mv_ 10),
 oc_ 182 60 [(t_ 181), (ci_ 5), (ci_ 7)],
 oq_ 12 (mv_ 182)]
def x47_45 : XCode := .seq (.region x47_43) (.region x47_44)
def x47_46 : List XOper := [oq_ 184 (.bin .eql (t_ 161) (.const (.int .u8 66))),
 oq_ 183 (mv_ 184)]
def x47_47 : List XOper := [oq_ 185 (mv_ 10),
 oc_ 186 60 [(t_ 185), (ci_ 11), (ci_ 1)],
 oq_ 187 (mv_ 10),
 oc_ 188 60 [(t_ 187), (ci_ 1), (ci_ 4)],
 oq_ 189 (.bin .mul (ci_ 2) (t_ 188)),
 oq_ 190 (.bin .add (t_ 186) (t_ 189)),
 oq_ 11 (mv_ 190)]
def x47_48 : List XOper := [oq_ 191 (mv_ 10),
 oc_ 192 60 [(t_ 191), (ci_ 5), (ci_ 6)],
 oq_ 193 (mv_ 10),
 oc_ 194 60 [(t_ 193), (ci_ 12), (ci_ 1)],
 oq_ 195 (.bin .mul (ci_ 64) (t_ 194)),
 oq_ 196 (.bin .add (t_ 192) (t_ 195)),
 oq_ 12 (mv_ 196)]
def x47_49 : XCode := .seq (.region x47_47) (.region x47_48)
def x47_50 : List XOper := [oq_ 198 (.bin .eql (t_ 161) (.const (.int .u8 85))),
 oq_ 197 (mv_ 198)]
def x47_51 : List XOper := [oq_ 199 (.faddr 1 (t_ 4)),
 oq_ 200 (.load (.int .i64) 1 (t_ 199)),
 oq_ 201 (.faddr 1 (t_ 1)),
 oq_ 202 (.load (.int .i64) 1 (t_ 201)),
 oq_ 203 (.bin .mul (ci_ 128) (t_ 202)),
 oq_ 204 (.bin .add (t_ 200) (t_ 203)),
 oq_ 205 (mv_ 10),
 oc_ 206 60 [(t_ 205), (ci_ 0), (ci_ 20)],
 oq_ 207 (.bin .mul (ci_ 4096) (t_ 206)),
 oq_ 208 (.bin .add (t_ 204) (t_ 207)),
 oq_ 209 (.conv .u32 (t_ 208)),
 oq_ 2 (mv_ 209),
 oq_ 3 (.mv (ci_ 0))]
def x47_52 : XCode := .seq (.draw x47_51 [[], [0], [], [2], [2, 3], [0, 1, 2, 3, 4], [], [6], [6, 7], [0, 1, 2, 3, 4, 5, 6, 7, 8], [0, 1, 2, 3, 4, 5, 6, 7, 8, 9], [0, 1, 2, 3, 4, 5, 6, 7, 8, 9, 10], [0, 1, 2, 3, 4, 5, 6, 7, 8, 9, 10, 11]]) .ret
def x47_53 : List XOper := [oq_ 211 (.bin .eql (t_ 161) (.const (.int .u8 74))),
 oq_ 210 (mv_ 211)]
def x47_54 : List XOper := [oq_ 212 (.faddr 1 (t_ 4)),
 oq_ 213 (.load (.int .i64) 1 (t_ 212)),
 oq_ 214 (.faddr 1 (t_ 1)),
 oq_ 215 (.load (.int .i64) 1 (t_ 214)),
 oq_ 216 (.bin .mul (ci_ 128) (t_ 215)),
 oq_ 217 (.bin .add (t_ 213) (t_ 216)),
 oq_ 218 (mv_ 10),
 oc_ 219 60 [(t_ 218), (ci_ 12), (ci_ 8)],
 oq_ 220 (.bin .mul (ci_ 4096) (t_ 219)),
 oq_ 221 (.bin .add (t_ 217) (t_ 220)),
 oq_ 222 (mv_ 10),
 oc_ 223 60 [(t_ 222), (ci_ 11), (ci_ 1)],
 oq_ 224 (.bin .mul (ci_ 1048576) (t_ 223)),
 oq_ 225 (.bin .add (t_ 221) (t_ 224)),
 oq_ 226 (mv_ 10),
 oc_ 227 60 [(t_ 226), (ci_ 1), (ci_ 10)],
 oq_ 228 (.bin .mul (ci_ 2097152) (t_ 227)),
 oq_ 229 (.bin .add (t_ 225) (t_ 228)),
 oq_ 230 (mv_ 10),
 oc_ 231 60 [(t_ 230), (ci_ 20), (ci_ 1)],
 oq_ 232 (.bin .mul (ci_ 2147483648) (t_ 231)),
 oq_ 233 (.bin .add (t_ 229) (t_ 232)),
 oq_ 234 (.conv .u32 (t_ 233)),
 oq_ 2 (mv_ 234),
 oq_ 3 (.mv (ci_ 0))]
def x47_55 : XCode := .seq (.draw x47_54 [[], [0], [], [2], [2, 3], [0, 1, 2, 3, 4], [], [6], [6, 7], [0, 1, 2, 3, 4, 5, 6, 7, 8], [], [6, 7, 10], [6, 7, 10, 11], [0, 1, 2, 3, 4, 5, 6, 7, 8, 9, 10, 11, 12], [], [6, 7, 10, 11, 14], [6, 7, 10, 11, 14, 15], [0, 1, 2, 3, 4, 5, 6, 7, 8, 9, 10, 11, 12, 13, 14, 15, 16], [], [6, 7, 10, 11, 14, 15, 18], [6, 7, 10, 11, 14, 15, 18, 19], [0, 1, 2, 3, 4, 5, 6, 7, 8, 9, 10, 11, 12, 13, 14, 15, 16, 17, 18, 19, 20], [0, 1, 2, 3, 4, 5, 6, 7, 8, 9, 10, 11, 12, 13, 14, 15, 16, 17, 18, 19, 20, 21], [0, 1, 2, 3, 4, 5, 6, 7, 8, 9, 10, 11, 12, 13, 14, 15, 16, 17, 18, 19, 20, 21, 22], [0, 1, 2, 3, 4, 5, 6, 7, 8, 9, 10, 11, 12, 13, 14, 15, 16, 17, 18, 19, 20, 21, 22, 23]]) .ret
def x47_56 : XCode := .cnd (t_ 210) x47_55 .skip
def x47_57 : XCode := .seq (.region x47_53) x47_56
def x47_58 : XCode := .cnd (t_ 197) x47_52 x47_57
def x47_59 : XCode := .seq (.region x47_50) x47_58
def x47_60 : XCode := .cnd (t_ 183) x47_49 x47_59
def x47_61 : XCode := .seq (.region x47_46) x47_60
def x47_62 : XCode := .cnd (t_ 177) x47_45 x47_61
def x47_63 : XCode := .seq (.region x47_42) x47_62
def x47_64 : XCode := .cnd (t_ 168) x47_41 x47_63
def x47_65 : XCode := .seq (.region x47_38) x47_64
def x47_66 : XCode := .cnd (t_ 162) x47_37 x47_65
def x47_67 : XCode := .seq (.region x47_34) x47_66
def x47_68 : XCode := .block 0 x47_67
def x47_69 : XCode := .seq (.region x47_33) x47_68
def x47_70 : List XOper := [oq_ 235 (.faddr 1 (t_ 4)),
 oq_ 236 (.load (.int .i64) 1 (t_ 235)),
 oq_ 237 (mv_ 11),
 oq_ 238 (.bin .mul (ci_ 128) (t_ 237)),
 oq_ 239 (.bin .add (t_ 236) (t_ 238)),
 oq_ 240 (.faddr 2 (t_ 4)),
 oq_ 241 (.load (.int .i64) 1 (t_ 240)),
 oq_ 242 (.bin .mul (ci_ 4096) (t_ 241)),
 oq_ 243 (.bin .add (t_ 239) (t_ 242)),
 oq_ 244 (.faddr 2 (t_ 1)),
 oq_ 245 (.load (.int .i64) 1 (t_ 244)),
 oq_ 246 (.bin .mul (ci_ 32768) (t_ 245)),
 oq_ 247 (.bin .add (t_ 243) (t_ 246)),
 oq_ 248 (mv_ 13),
 oq_ 249 (.bin .mul (ci_ 1048576) (t_ 248)),
 oq_ 250 (.bin .add (t_ 247) (t_ 249)),
 oq_ 251 (mv_ 12),
 oq_ 252 (.bin .mul (ci_ 33554432) (t_ 251)),
 oq_ 253 (.bin .add (t_ 250) (t_ 252)),
 oq_ 254 (.conv .u32 (t_ 253)),
 oq_ 2 (mv_ 254),
 oq_ 3 (.mv (ci_ 0))]
def x47_71 : XCode := .seq (.region x47_70) .ret
def x47_72 : XCode := .seq x47_69 x47_71
def x47_73 : XCode := .seq (.region x47_32) x47_72
def x47_74 : XCode := .seq (.draw x47_31 [[], [0], [], [2], [0, 1], [0, 1, 2, 3, 4]]) x47_73
def x47_75 : XCode := .seq (.region x47_30) x47_74
def x47_76 : XCode := .seq x47_29 x47_75
def x47_77 : XCode := .seq x47_24 x47_76
def x47_78 : XCode := .seq x47_19 x47_77
def x47_79 : XCode := .seq x47_14 x47_78
def x47_80 : XCode := .seq x47_8 x47_79
def x47_81 : XCode := .seq (.region x47_3) x47_80
def x47_82 : XCode := .seq (.draw x47_2 [[], [0], [0, 1], [0, 1, 2], [0, 1, 2, 3], [0, 1, 2, 3, 4], [0, 1, 2, 3, 4, 5], [0, 1, 2, 3, 4, 5, 6], [], [8], [8, 9], [0, 1, 2, 3, 8, 9, 10], [0, 1, 2, 3, 8, 9, 10, 11], [0, 1, 2, 3, 8, 9, 10, 11, 12], [0, 1, 2, 3, 8, 9, 10, 11, 12, 13], [0, 1, 2, 3, 8, 9, 10, 11, 12, 13, 14], [], [16], [16, 17], [0, 1, 2, 3, 8, 9, 10, 11, 16, 17, 18], [0, 1, 2, 3, 8, 9, 10, 11, 16, 17, 18, 19], [0, 1, 2, 3, 8, 9, 10, 11, 16, 17, 18, 19, 20], [0, 1, 2, 3, 8, 9, 10, 11, 16, 17, 18, 19, 20, 21], [0, 1, 2, 3, 8, 9, 10, 11, 16, 17, 18, 19, 20, 21, 22], [0, 1, 2, 3, 8, 9, 10, 11, 16, 17, 18, 19, 20, 21, 22, 23], [0, 1, 2, 3, 8, 9, 10, 11, 16, 17, 18, 19, 20, 21, 22, 23, 24], [0, 1, 2, 3, 8, 9, 10, 11, 16, 17, 18, 19, 20, 21, 22, 23, 24, 25], [0, 1, 2, 3, 8, 9, 10, 11, 16, 17, 18, 19, 20, 21, 22, 23, 24, 25, 26], [0, 1, 2, 3, 8, 9, 10, 11, 16, 17, 18, 19, 20, 21, 22, 23, 24, 25, 26, 27], [0, 1, 2, 3, 4, 5, 6, 7, 8, 9, 10, 11, 16, 17, 18, 19, 20, 21, 22, 23, 24], [0, 1, 2, 3, 4, 5, 6, 7, 8, 9, 10, 11, 12, 13, 14, 15, 16, 17, 18, 19, 20, 21, 22, 23, 24, 29], [0, 1, 2, 3, 4, 5, 6, 7, 8, 9, 10, 11, 12, 13, 14, 15, 16, 17, 18, 19, 20, 21, 22, 23, 24, 25, 26, 27, 28, 29, 30]]) x47_81
def x47_83 : XCode := .seq (.region x47_1) x47_82
def x47_84 : XCode := .seq (.region x47_0) x47_83
def x47 : XCode := x47_84
theorem fx47 : fnx Try.prog 47 = some (255, [(2, none), (3, none)], x47) := by kernel_rfl
def x48_0 : List XOper := [oq_ 8 (.new [(.int .i64 0), (.int .u8 0), (.int .i64 0), (.slice none 0 0), (.int .i64 0), (.int .i64 0)]),
 oq_ 9 (.mv (.const (.slice none 0 0)))]
def x48_1 : List XOper := [oq_ 12 (mv_ 0),
 oq_ 13 (mv_ 1),
 oq_ 14 (mv_ 3),
 oq_ 15 (.build [(.pointer none), (.slice none 0 0), (.slice none 0 0), (.int .i64 0), (.bool false), (.slice none 0 0)] [(0, 1, (t_ 12)), (1, 1, (t_ 13)), (4, 1, (t_ 14))]),
 oq_ 16 (.box (t_ 15)),
 oq_ 10 (mv_ 16)]
def x48_2 : List XOper := [oq_ 11 (.mv (ci_ 0))]
def x48_3 : List XOper := [oq_ 17 (mv_ 11),
 oq_ 18 (mv_ 2),
 oq_ 19 (.bin .lss (t_ 17) (t_ 18)),
 oq_ 20 (mv_ 19),
 og_ 21 20 true (mv_ 0),
 og_ 22 20 true (.nilck (t_ 21)),
 og_ 23 20 true (.faddr 34 (t_ 22)),
 og_ 24 20 true (.load (.int .i64) 1 (t_ 23)),
 og_ 25 20 true (.bin .eql (t_ 24) (ci_ 0)),
 ⟨(some 26), .pick (t_ 20) (t_ 25) (.const (.bool false)), none⟩]
def x48_4 : XCode := .cnd (t_ 26) .skip (.exit 0)
def x48_5 : XCode := .seq (.region x48_3) x48_4
def x48_6 : List XOper := [oq_ 27 (mv_ 10),
 oc_ 28 61 [(t_ 27)],
 oq_ 29 (.un .not (t_ 28))]
def x48_7 : List XOper := [oq_ 30 (mv_ 0),
 oq_ 31 (.nilck (t_ 30)),
 oq_ 32 (.faddr 34 (t_ 31)),
 on_ (.store 1 (t_ 32) (ci_ 4))]
def x48_8 : XCode := .seq (.region x48_7) (.exit 0)
def x48_9 : XCode := .cnd (t_ 29) x48_8 .skip
def x48_10 : XCode := .seq (.region x48_6) x48_9
def x48_11 : List XOper := [oq_ 33 (mv_ 11),
 oq_ 34 (.bin .add (t_ 33) (ci_ 1)),
 oq_ 11 (mv_ 34)]
def x48_12 : XCode := .seq x48_10 (.region x48_11)
def x48_13 : XCode := .block 1 x48_12
def x48_14 : XCode := .seq x48_5 x48_13
def x48_15 : XCode := .loop x48_14
def x48_16 : XCode := .block 0 x48_15
def x48_17 : List XOper := [oq_ 35 (mv_ 0),
 oq_ 36 (.nilck (t_ 35)),
 oq_ 37 (.faddr 34 (t_ 36)),
 oq_ 38 (.load (.int .i64) 1 (t_ 37)),
 oq_ 39 (mv_ 0),
 oq_ 40 (.nilck (t_ 39)),
 oq_ 41 (.faddr 35 (t_ 40)),
 oq_ 42 (.load (.int .u8) 1 (t_ 41)),
 oq_ 43 (mv_ 10),
 oq_ 44 (.nilck (t_ 43)),
 oq_ 45 (.faddr 2 (t_ 44)),
 oq_ 46 (.load .one 1 (t_ 45)),
 oq_ 47 (mv_ 11),
 oq_ 48 (mv_ 10),
 oq_ 49 (.nilck (t_ 48)),
 oq_ 50 (.faddr 3 (t_ 49)),
 oq_ 51 (.load (.int .i64) 1 (t_ 50)),
 oq_ 52 (.build [(.int .i64 0), (.int .u8 0), (.int .i64 0), (.slice none 0 0), (.int .i64 0), (.int .i64 0)] [(0, 1, (t_ 38)), (1, 1, (t_ 42)), (3, 1, (t_ 46)), (4, 1, (t_ 47)), (5, 1, (t_ 51))]),
 oq_ 53 (mv_ 10),
 oq_ 54 (.nilck (t_ 53)),
 oq_ 55 (.faddr 5 (t_ 54)),
 oq_ 56 (.load .one 1 (t_ 55)),
 on_ (.store 6 (t_ 8) (t_ 52)),
 oq_ 9 (mv_ 56)]
def x48_18 : XCode := .seq (.draw x48_17 [[], [0], [0, 1], [0, 1, 2], [], [4], [4, 5], [4, 5, 6], [], [8], [8, 9], [8, 9, 10], [], [], [13], [13, 14], [13, 14, 15], [0, 1, 2, 3, 4, 5, 6, 7, 8, 9, 10, 11, 12, 13, 14, 15, 16], [], [18], [18, 19], [18, 19, 20], [0, 1, 2, 3, 4, 5, 6, 7, 8, 9, 10, 11, 12, 13, 14, 15, 16, 17], [0, 1, 2, 3, 4, 5, 6, 7, 8, 9, 10, 11, 12, 13, 14, 15, 16, 17, 18, 19, 20, 21, 22]]) .ret
def x48_19 : XCode := .seq x48_16 x48_18
def x48_20 : XCode := .seq (.region x48_2) x48_19
def x48_21 : XCode := .seq (.region x48_1) x48_20
def x48_22 : XCode := .seq (.region x48_0) x48_21
def x48 : XCode := x48_22
theorem fx48 : fnx Try.prog 48 = some (57, [(8, (some (.agg, 6))), (9, none)], x48) := by kernel_rfl
def x50_0 : List XOper := [oq_ 2 (.mv (.const (.slice none 0 0)))]
def x50_1 : List XOper := [oq_ 3 (mv_ 0),
 oq_ 4 (.eqnil 1 false (t_ 3) (.const (.slice none 0 0)))]
def x50_2 : List XOper := [oq_ 2 (.mv (.const (.slice none 0 0)))]
def x50_3 : XCode := .seq (.region x50_2) .ret
def x50_4 : XCode := .cnd (t_ 4) x50_3 .skip
def x50_5 : XCode := .seq (.region x50_1) x50_4
def x50_6 : List XOper := [oq_ 5 (.mkslice [(.int .u8 0)] 0 []),
 oq_ 6 (mv_ 0),
 oq_ 7 (.app 1 1 (t_ 5) (t_ 6)),
 oq_ 2 (mv_ 7)]
def x50_7 : XCode := .seq (.region x50_6) .ret
def x50_8 : XCode := .seq x50_5 x50_7
def x50_9 : XCode := .seq (.region x50_0) x50_8
def x50 : XCode := x50_9
theorem fx50 : fnx Try.prog 50 = some (8, [(2, none)], x50) := by kernel_rfl
def x52_0 : List XOper := [oq_ 2 (.mv (.const (.bool false)))]
def x52_1 : List XOper := [oq_ 3 (mv_ 0),
 oq_ 4 (.bin .geq (t_ 3) (ci_ 45)),
 oq_ 5 (mv_ 4),
 og_ 6 5 true (mv_ 0),
 og_ 7 5 true (.bin .leq (t_ 6) (ci_ 50)),
 ⟨(some 8), .pick (t_ 5) (t_ 7) (.const (.bool false)), none⟩,
 oq_ 2 (mv_ 8)]
def x52_2 : XCode := .seq (.region x52_1) .ret
def x52_3 : XCode := .seq (.region x52_0) x52_2
def x52 : XCode := x52_3
theorem fx52 : fnx Try.prog 52 = some (9, [(2, none)], x52) := by kernel_rfl
def x54_0 : List XOper := [oq_ 2 (.mv (ci_ 0))]
def x54_1 : List XOper := [oq_ 3 (mv_ 0),
 oq_ 4 (mv_ 0),
 oc_ 5 55 [(t_ 4)],
 oq_ 6 (.bin .sub (t_ 3) (t_ 5)),
 oq_ 7 (.bin .shr (t_ 6) (.const (.int .u64 12))),
 oq_ 2 (mv_ 7)]
def x54_2 : XCode := .seq (.region x54_1) .ret
def x54_3 : XCode := .seq (.region x54_0) x54_2
def x54 : XCode := x54_3
theorem fx54 : fnx Try.prog 54 = some (8, [(2, none)], x54) := by kernel_rfl
def x55_0 : List XOper := [oq_ 2 (.mv (ci_ 0))]
def x55_1 : List XOper := [oq_ 3 (mv_ 0),
 oq_ 4 (.bin .and (t_ 3) (ci_ 4095)),
 oq_ 5 (.bin .xor (t_ 4) (ci_ 2048)),
 oq_ 6 (.bin .sub (t_ 5) (ci_ 2048)),
 oq_ 2 (mv_ 6)]
def x55_2 : XCode := .seq (.region x55_1) .ret
def x55_3 : XCode := .seq (.region x55_0) x55_2
def x55 : XCode := x55_3
theorem fx55 : fnx Try.prog 55 = some (7, [(2, none)], x55) := by kernel_rfl
def x56_0 : List XOper := [oq_ 2 (.mv (ci_ 0))]
def x56_1 : List XOper := [oq_ 3 (mv_ 0),
 oq_ 4 (.bin .sub (t_ 3) (ci_ 45)),
 oq_ 5 (.bin .xor (t_ 4) (ci_ 1)),
 oq_ 6 (.bin .add (t_ 5) (ci_ 45)),
 oq_ 2 (mv_ 6)]
def x56_2 : XCode := .seq (.region x56_1) .ret
def x56_3 : XCode := .seq (.region x56_0) x56_2
def x56 : XCode := x56_3
theorem fx56 : fnx Try.prog 56 = some (7, [(2, none)], x56) := by kernel_rfl
def x57_0 : List XOper := [oq_ 9 (mv_ 2),
 oq_ 10 (.lenS (t_ 9)),
 oq_ 11 (.mv (ci_ 0))]
def x57_1 : List XOper := [oq_ 12 (.bin .lss (t_ 11) (t_ 10))]
def x57_2 : XCode := .cnd (t_ 12) .skip (.exit 0)
def x57_3 : List XOper := [oq_ 13 (.iaddrS 3 (t_ 9) (t_ 11)),
 oq_ 14 (.load .agg 3 (t_ 13)),
 oq_ 8 (.new [(.int .u32 0), (.int .u32 0), (.int .u32 0)]),
 on_ (.store 3 (t_ 8) (t_ 14))]
def x57_4 : List XOper := [oq_ 15 (.load .one 1 (t_ 3)),
 oq_ 16 (.iaddrA false 3 1 (t_ 8) (ci_ 0)),
 oq_ 17 (.load (.int .u32) 1 (t_ 16)),
 oq_ 18 (.conv .i64 (t_ 17)),
 oq_ 19 (mv_ 0),
 oq_ 20 (mv_ 1),
 oq_ 21 (.iaddrA false 3 1 (t_ 8) (ci_ 1)),
 oq_ 22 (.load (.int .u32) 1 (t_ 21)),
 oq_ 23 (.iaddrA false 3 1 (t_ 8) (ci_ 2)),
 oq_ 24 (.load (.int .u32) 1 (t_ 23)),
 oq_ 25 (.build [(.int .u32 0), (.int .u32 0), (.int .u32 0)] [(0, 1, (t_ 20)), (1, 1, (t_ 22)), (2, 1, (t_ 24))]),
 oq_ 26 (.build [(.int .u8 0), (.int .u32 0), (.int .u32 0), (.int .u32 0)] [(0, 1, (t_ 19)), (1, 3, (t_ 25))]),
 on_ (.mapupd 3 104 (.int .i64) (t_ 15) (t_ 18) (t_ 26))]
def x57_5 : XCode := .seq (.region x57_3) (.region x57_4)
def x57_6 : XCode := .block 1 x57_5
def x57_7 : List XOper := [oq_ 27 (.bin .add (t_ 11) (ci_ 1)),
 oq_ 11 (mv_ 27)]
def x57_8 : XCode := .seq x57_6 (.region x57_7)
def x57_9 : XCode := .seq x57_2 x57_8
def x57_10 : XCode := .seq (.region x57_1) x57_9
def x57_11 : XCode := .loop x57_10
def x57_12 : XCode := .block 0 x57_11
def x57_13 : XCode := .seq (.region x57_0) x57_12
def x57 : XCode := x57_13
theorem fx57 : fnx Try.prog 57 = some (28, [], x57) := by kernel_rfl
def x58_0 : List XOper := [oq_ 2 (.new [(.int .u8 0), (.int .i64 0), (.int .i64 0), (.int .i64 0)])]
def x58_1 : List XOper := [oq_ 6 (.build [(.int .i64 0), (.int .i64 0)] []),
 oq_ 7 (.build [(.int .i64 0), (.int .i64 0)] [(0, 1, (ci_ 0)), (1, 1, (ci_ 0))]),
 oq_ 8 (.build [(.int .i64 0), (.int .i64 0)] [(0, 1, (ci_ 0)), (1, 1, (ci_ 32))]),
 oq_ 9 (.build [(.int .i64 0), (.int .i64 0)] [(0, 1, (ci_ 1)), (1, 1, (ci_ 0))]),
 oq_ 10 (.build [(.int .i64 0), (.int .i64 0)] [(0, 1, (ci_ 2)), (1, 1, (ci_ 0))]),
 oq_ 11 (.build [(.int .i64 0), (.int .i64 0)] [(0, 1, (ci_ 3)), (1, 1, (ci_ 0))]),
 oq_ 12 (.build [(.int .i64 0), (.int .i64 0)] [(0, 1, (ci_ 4)), (1, 1, (ci_ 0))]),
 oq_ 13 (.build [(.int .i64 0), (.int .i64 0)] [(0, 1, (ci_ 5)), (1, 1, (ci_ 0))]),
 oq_ 14 (.build [(.int .i64 0), (.int .i64 0)] [(0, 1, (ci_ 5)), (1, 1, (ci_ 32))]),
 oq_ 15 (.build [(.int .i64 0), (.int .i64 0)] [(0, 1, (ci_ 6)), (1, 1, (ci_ 0))]),
 oq_ 16 (.build [(.int .i64 0), (.int .i64 0)] [(0, 1, (ci_ 7)), (1, 1, (ci_ 0))]),
 oq_ 17 (.build [(.int .i64 0), (.int .i64 0)] [(0, 1, (ci_ 0)), (1, 1, (ci_ 1))]),
 oq_ 18 (.build [(.int .i64 0), (.int .i64 0)] [(0, 1, (ci_ 1)), (1, 1, (ci_ 1))]),
 oq_ 19 (.build [(.int .i64 0), (.int .i64 0)] [(0, 1, (ci_ 3)), (1, 1, (ci_ 1))]),
 oq_ 20 (.build [(.int .i64 0), (.int .i64 0)] [(0, 1, (ci_ 4)), (1, 1, (ci_ 1))]),
 oq_ 21 (.build [(.int .i64 0), (.int .i64 0)] [(0, 1, (ci_ 5)), (1, 1, (ci_ 1))]),
 oq_ 22 (.build [(.int .i64 0), (.int .i64 0)] [(0, 1, (ci_ 6)), (1, 1, (ci_ 1))]),
 oq_ 23 (.build [(.int .i64 0), (.int .i64 0)] [(0, 1, (ci_ 7)), (1, 1, (ci_ 1))]),
 oq_ 24 (.build [(.int .i64 0), (.int .i64 0)] [(0, 1, (ci_ 0)), (1, 1, (ci_ 0))]),
 oq_ 25 (.build [(.int .i64 0), (.int .i64 0)] [(0, 1, (ci_ 0)), (1, 1, (ci_ 32))]),
 oq_ 26 (.build [(.int .i64 0), (.int .i64 0)] [(0, 1, (ci_ 1)), (1, 1, (ci_ 0))]),
 oq_ 27 (.build [(.int .i64 0), (.int .i64 0)] [(0, 1, (ci_ 5)), (1, 1, (ci_ 0))]),
 oq_ 28 (.build [(.int .i64 0), (.int .i64 0)] [(0, 1, (ci_ 5)), (1, 1, (ci_ 32))]),
 oq_ 29 (.build [(.int .i64 0), (.int .i64 0)] [(0, 1, (ci_ 0)), (1, 1, (ci_ 1))]),
 oq_ 30 (.build [(.int .i64 0), (.int .i64 0)] [(0, 1, (ci_ 4)), (1, 1, (ci_ 1))]),
 oq_ 31 (.build [(.int .i64 0), (.int .i64 0)] [(0, 1, (ci_ 5)), (1, 1, (ci_ 1))]),
 oq_ 32 (.build [(.int .i64 0), (.int .i64 0)] [(0, 1, (ci_ 6)), (1, 1, (ci_ 1))]),
 oq_ 33 (.build [(.int .i64 0), (.int .i64 0)] [(0, 1, (ci_ 7)), (1, 1, (ci_ 1))]),
 oq_ 34 (.build [(.int .i64 0), (.int .i64 0), (.int .i64 0), (.int .i64 0), (.int .i64 0), (.int .i64 0), (.int .i64 0), (.int .i64 0), (.int .i64 0), (.int .i64 0), (.int .i64 0), (.int .i64 0), (.int .i64 0), (.int .i64 0), (.int .i64 0), (.int .i64 0), (.int .i64 0), (.int .i64 0), (.int .i64 0), (.int .i64 0), (.int .i64 0), (.int .i64 0), (.int .i64 0), (.int .i64 0), (.int .i64 0), (.int .i64 0), (.int .i64 0), (.int .i64 0), (.int .i64 0), (.int .i64 0), (.int .i64 0), (.int .i64 0), (.int .i64 0), (.int .i64 0), (.int .i64 0), (.int .i64 0), (.int .i64 0), (.int .i64 0), (.int .i64 0), (.int .i64 0), (.int .i64 0), (.int .i64 0), (.int .i64 0), (.int .i64 0), (.int .i64 0), (.int .i64 0), (.int .i64 0), (.int .i64 0), (.int .i64 0), (.int .i64 0), (.int .i64 0), (.int .i64 0), (.int .i64 0), (.int .i64 0), (.int .i64 0), (.int .i64 0)] [(0, 2, (t_ 6)), (2, 2, (t_ 7)), (4, 2, (t_ 8)), (6, 2, (t_ 9)), (8, 2, (t_ 10)), (10, 2, (t_ 11)), (12, 2, (t_ 12)), (14, 2, (t_ 13)), (16, 2, (t_ 14)), (18, 2, (t_ 15)), (20, 2, (t_ 16)), (22, 2, (t_ 17)), (24, 2, (t_ 18)), (26, 2, (t_ 19)), (28, 2, (t_ 20)), (30, 2, (t_ 21)), (32, 2, (t_ 22)), (34, 2, (t_ 23)), (36, 2, (t_ 24)), (38, 2, (t_ 25)), (40, 2, (t_ 26)), (42, 2, (t_ 27)), (44, 2, (t_ 28)), (46, 2, (t_ 29)), (48, 2, (t_ 30)), (50, 2, (t_ 31)), (52, 2, (t_ 32)), (54, 2, (t_ 33))]),
 oq_ 3 (.new [(.int .i64 0), (.int .i64 0), (.int .i64 0), (.int .i64 0), (.int .i64 0), (.int .i64 0), (.int .i64 0), (.int .i64 0), (.int .i64 0), (.int .i64 0), (.int .i64 0), (.int .i64 0), (.int .i64 0), (.int .i64 0), (.int .i64 0), (.int .i64 0), (.int .i64 0), (.int .i64 0), (.int .i64 0), (.int .i64 0), (.int .i64 0), (.int .i64 0), (.int .i64 0), (.int .i64 0), (.int .i64 0), (.int .i64 0), (.int .i64 0), (.int .i64 0), (.int .i64 0), (.int .i64 0), (.int .i64 0), (.int .i64 0), (.int .i64 0), (.int .i64 0), (.int .i64 0), (.int .i64 0), (.int .i64 0), (.int .i64 0), (.int .i64 0), (.int .i64 0), (.int .i64 0), (.int .i64 0), (.int .i64 0), (.int .i64 0), (.int .i64 0), (.int .i64 0), (.int .i64 0), (.int .i64 0), (.int .i64 0), (.int .i64 0), (.int .i64 0), (.int .i64 0), (.int .i64 0), (.int .i64 0), (.int .i64 0), (.int .i64 0)]),
 on_ (.store 56 (t_ 3) (t_ 34))]
def x58_2 : List XOper := [oq_ 35 (mv_ 0),
 oq_ 36 (.bin .geq (t_ 35) (ci_ 1)),
 oq_ 37 (mv_ 36),
 og_ 38 37 true (mv_ 0),
 og_ 39 37 true (.bin .leq (t_ 38) (ci_ 17)),
 ⟨(some 40), .pick (t_ 37) (t_ 39) (.const (.bool false)), none⟩]
def x58_3 : List XOper := [oq_ 41 (mv_ 0),
 oq_ 42 (.iaddrA true 28 2 (t_ 3) (t_ 41)),
 oq_ 43 (.iaddrA false 2 1 (t_ 42) (ci_ 0)),
 oq_ 44 (.load (.int .i64) 1 (t_ 43)),
 oq_ 45 (mv_ 0),
 oq_ 46 (.iaddrA true 28 2 (t_ 3) (t_ 45)),
 oq_ 47 (.iaddrA false 2 1 (t_ 46) (ci_ 1)),
 oq_ 48 (.load (.int .i64) 1 (t_ 47)),
 oq_ 49 (.build [(.int .u8 0), (.int .i64 0), (.int .i64 0), (.int .i64 0)] [(0, 1, (.const (.int .u8 82))), (1, 1, (ci_ 51)), (2, 1, (t_ 44)), (3, 1, (t_ 48))]),
 on_ (.store 4 (t_ 2) (t_ 49))]
def x58_4 : XCode := .seq (.draw x58_3 [[], [0], [0, 1], [0, 1, 2], [], [4], [4, 5], [4, 5, 6], [0, 1, 2, 3, 4, 5, 6, 7], [0, 1, 2, 3, 4, 5, 6, 7, 8]]) .ret
def x58_5 : XCode := .cnd (t_ 40) x58_4 .skip
def x58_6 : XCode := .seq (.region x58_2) x58_5
def x58_7 : List XOper := [oq_ 50 (mv_ 0),
 oq_ 51 (.bin .geq (t_ 50) (ci_ 18)),
 oq_ 52 (mv_ 51),
 og_ 53 52 true (mv_ 0),
 og_ 54 52 true (.bin .leq (t_ 53) (ci_ 27)),
 ⟨(some 55), .pick (t_ 52) (t_ 54) (.const (.bool false)), none⟩]
def x58_8 : List XOper := [oq_ 56 (mv_ 0),
 oq_ 57 (.iaddrA true 28 2 (t_ 3) (t_ 56)),
 oq_ 58 (.iaddrA false 2 1 (t_ 57) (ci_ 0)),
 oq_ 59 (.load (.int .i64) 1 (t_ 58)),
 oq_ 60 (mv_ 0),
 oq_ 61 (.iaddrA true 28 2 (t_ 3) (t_ 60)),
 oq_ 62 (.iaddrA false 2 1 (t_ 61) (ci_ 1)),
 oq_ 63 (.load (.int .i64) 1 (t_ 62)),
 oq_ 64 (.build [(.int .u8 0), (.int .i64 0), (.int .i64 0), (.int .i64 0)] [(0, 1, (.const (.int .u8 82))), (1, 1, (ci_ 59)), (2, 1, (t_ 59)), (3, 1, (t_ 63))]),
 on_ (.store 4 (t_ 2) (t_ 64))]
def x58_9 : XCode := .seq (.draw x58_8 [[], [0], [0, 1], [0, 1, 2], [], [4], [4, 5], [4, 5, 6], [0, 1, 2, 3, 4, 5, 6, 7], [0, 1, 2, 3, 4, 5, 6, 7, 8]]) .ret
def x58_10 : XCode := .cnd (t_ 55) x58_9 .skip
def x58_11 : XCode := .seq (.region x58_7) x58_10
def x58_12 : List XOper := [oq_ 65 (.build [(.int .i64 0), (.int .i64 0), (.int .i64 0), (.int .i64 0), (.int .i64 0), (.int .i64 0), (.int .i64 0), (.int .i64 0), (.int .i64 0), (.int .i64 0), (.int .i64 0), (.int .i64 0), (.int .i64 0), (.int .i64 0), (.int .i64 0), (.int .i64 0), (.int .i64 0), (.int .i64 0), (.int .i64 0), (.int .i64 0), (.int .i64 0), (.int .i64 0), (.int .i64 0), (.int .i64 0), (.int .i64 0), (.int .i64 0), (.int .i64 0), (.int .i64 0)] [(0, 1, (ci_ 0)), (1, 1, (ci_ 2)), (2, 1, (ci_ 3)), (3, 1, (ci_ 4)), (4, 1, (ci_ 6)), (5, 1, (ci_ 7)), (6, 1, (ci_ 1)), (7, 1, (ci_ 5)), (8, 1, (ci_ 5)), (9, 1, (ci_ 0)), (10, 1, (ci_ 0)), (11, 1, (ci_ 4)), (12, 1, (ci_ 2)), (13, 1, (ci_ 3)), (14, 1, (ci_ 0)), (15, 1, (ci_ 2)), (16, 1, (ci_ 3)), (17, 1, (ci_ 0)), (18, 1, (ci_ 1)), (19, 1, (ci_ 4)), (20, 1, (ci_ 5)), (21, 1, (ci_ 6)), (22, 1, (ci_ 7)), (23, 1, (ci_ 0)), (24, 1, (ci_ 0)), (25, 1, (ci_ 0)), (26, 1, (ci_ 0)), (27, 1, (ci_ 0))]),
 oq_ 4 (.new [(.int .i64 0), (.int .i64 0), (.int .i64 0), (.int .i64 0), (.int .i64 0), (.int .i64 0), (.int .i64 0), (.int .i64 0), (.int .i64 0), (.int .i64 0), (.int .i64 0), (.int .i64 0), (.int .i64 0), (.int .i64 0), (.int .i64 0), (.int .i64 0), (.int .i64 0), (.int .i64 0), (.int .i64 0), (.int .i64 0), (.int .i64 0), (.int .i64 0), (.int .i64 0), (.int .i64 0), (.int .i64 0), (.int .i64 0), (.int .i64 0), (.int .i64 0)]),
 on_ (.store 28 (t_ 4) (t_ 65))]
def x58_13 : List XOper := [oq_ 66 (mv_ 0),
 oq_ 67 (.bin .lss (t_ 66) (ci_ 28)),
 oq_ 68 (mv_ 67),
 og_ 69 68 false (mv_ 0),
 og_ 70 68 false (.bin .gtr (t_ 69) (ci_ 55)),
 ⟨(some 71), .pick (t_ 68) (.const (.bool true)) (t_ 70), none⟩]
def x58_14 : List XOper := [oq_ 72 (.build [(.int .u8 0), (.int .i64 0), (.int .i64 0), (.int .i64 0)] []),
 on_ (.store 4 (t_ 2) (t_ 72))]
def x58_15 : XCode := .seq (.region x58_14) .ret
def x58_16 : XCode := .cnd (t_ 71) x58_15 .skip
def x58_17 : XCode := .seq (.region x58_13) x58_16
def x58_18 : List XOper := [oq_ 73 (mv_ 0),
 oq_ 74 (.bin .sub (t_ 73) (ci_ 28)),
 oq_ 75 (.iaddrA true 28 1 (t_ 4) (t_ 74)),
 oq_ 76 (.load (.int .i64) 1 (t_ 75)),
 oq_ 5 (mv_ 76)]
def x58_19 : List XOper := [oq_ 78 (mv_ 0),
 oq_ 79 (.bin .leq (t_ 78) (ci_ 33)),
 oq_ 77 (mv_ 79)]
def x58_20 : List XOper := [oq_ 80 (mv_ 5),
 oq_ 81 (.build [(.int .u8 0), (.int .i64 0), (.int .i64 0), (.int .i64 0)] [(0, 1, (.const (.int .u8 73))), (1, 1, (ci_ 19)), (2, 1, (t_ 80)), (3, 1, (ci_ 0))]),
 on_ (.store 4 (t_ 2) (t_ 81))]
def x58_21 : XCode := .seq (.region x58_20) .ret
def x58_22 : List XOper := [oq_ 83 (mv_ 0),
 oq_ 84 (.bin .eql (t_ 83) (ci_ 36)),
 oq_ 82 (mv_ 84)]
def x58_23 : List XOper := [oq_ 85 (mv_ 5),
 oq_ 86 (.build [(.int .u8 0), (.int .i64 0), (.int .i64 0), (.int .i64 0)] [(0, 1, (.const (.int .u8 84))), (1, 1, (ci_ 19)), (2, 1, (t_ 85)), (3, 1, (ci_ 32))]),
 on_ (.store 4 (t_ 2) (t_ 86))]
def x58_24 : XCode := .seq (.region x58_23) .ret
def x58_25 : List XOper := [oq_ 88 (mv_ 0),
 oq_ 89 (.bin .leq (t_ 88) (ci_ 35)),
 oq_ 87 (mv_ 89)]
def x58_26 : List XOper := [oq_ 90 (mv_ 5),
 oq_ 91 (.build [(.int .u8 0), (.int .i64 0), (.int .i64 0), (.int .i64 0)] [(0, 1, (.const (.int .u8 84))), (1, 1, (ci_ 19)), (2, 1, (t_ 90)), (3, 1, (ci_ 0))]),
 on_ (.store 4 (t_ 2) (t_ 91))]
def x58_27 : XCode := .seq (.region x58_26) .ret
def x58_28 : List XOper := [oq_ 93 (mv_ 0),
 oq_ 94 (.bin .eql (t_ 93) (ci_ 37)),
 oq_ 92 (mv_ 94)]
def x58_29 : List XOper := [oq_ 95 (mv_ 5),
 oq_ 96 (.build [(.int .u8 0), (.int .i64 0), (.int .i64 0), (.int .i64 0)] [(0, 1, (.const (.int .u8 73))), (1, 1, (ci_ 27)), (2, 1, (t_ 95)), (3, 1, (ci_ 0))]),
 on_ (.store 4 (t_ 2) (t_ 96))]
def x58_30 : XCode := .seq (.region x58_29) .ret
def x58_31 : List XOper := [oq_ 98 (mv_ 0),
 oq_ 99 (.bin .leq (t_ 98) (ci_ 41)),
 oq_ 97 (mv_ 99)]
def x58_32 : List XOper := [oq_ 100 (mv_ 5),
 oq_ 101 (.build [(.int .u8 0), (.int .i64 0), (.int .i64 0), (.int .i64 0)] [(0, 1, (.const (.int .u8 73))), (1, 1, (ci_ 3)), (2, 1, (t_ 100)), (3, 1, (ci_ 0))]),
 on_ (.store 4 (t_ 2) (t_ 101))]
def x58_33 : XCode := .seq (.region x58_32) .ret
def x58_34 : List XOper := [oq_ 103 (mv_ 0),
 oq_ 104 (.bin .leq (t_ 103) (ci_ 44)),
 oq_ 102 (mv_ 104)]
def x58_35 : List XOper := [oq_ 105 (mv_ 5),
 oq_ 106 (.build [(.int .u8 0), (.int .i64 0), (.int .i64 0), (.int .i64 0)] [(0, 1, (.const (.int .u8 83))), (1, 1, (ci_ 35)), (2, 1, (t_ 105)), (3, 1, (ci_ 0))]),
 on_ (.store 4 (t_ 2) (t_ 106))]
def x58_36 : XCode := .seq (.region x58_35) .ret
def x58_37 : List XOper := [oq_ 108 (mv_ 0),
 oq_ 109 (.bin .leq (t_ 108) (ci_ 50)),
 oq_ 107 (mv_ 109)]
def x58_38 : List XOper := [oq_ 110 (mv_ 5),
 oq_ 111 (.build [(.int .u8 0), (.int .i64 0), (.int .i64 0), (.int .i64 0)] [(0, 1, (.const (.int .u8 66))), (1, 1, (ci_ 99)), (2, 1, (t_ 110)), (3, 1, (ci_ 0))]),
 on_ (.store 4 (t_ 2) (t_ 111))]
def x58_39 : XCode := .seq (.region x58_38) .ret
def x58_40 : List XOper := [oq_ 113 (mv_ 0),
 oq_ 114 (.bin .eql (t_ 113) (ci_ 51)),
 oq_ 112 (mv_ 114)]
def x58_41 : List XOper := [oq_ 115 (.build [(.int .u8 0), (.int .i64 0), (.int .i64 0), (.int .i64 0)] [(0, 1, (.const (.int .u8 85))), (1, 1, (ci_ 55)), (2, 1, (ci_ 0)), (3, 1, (ci_ 0))]),
 on_ (.store 4 (t_ 2) (t_ 115))]
def x58_42 : XCode := .seq (.region x58_41) .ret
def x58_43 : List XOper := [oq_ 117 (mv_ 0),
 oq_ 118 (.bin .eql (t_ 117) (ci_ 52)),
 oq_ 116 (mv_ 118)]
def x58_44 : List XOper := [oq_ 119 (.build [(.int .u8 0), (.int .i64 0), (.int .i64 0), (.int .i64 0)] [(0, 1, (.const (.int .u8 85))), (1, 1, (ci_ 23)), (2, 1, (ci_ 0)), (3, 1, (ci_ 0))]),
 on_ (.store 4 (t_ 2) (t_ 119))]
def x58_45 : XCode := .seq (.region x58_44) .ret
def x58_46 : List XOper := [oq_ 121 (mv_ 0),
 oq_ 122 (.bin .eql (t_ 121) (ci_ 53)),
 oq_ 120 (mv_ 122)]
def x58_47 : List XOper := [oq_ 123 (.build [(.int .u8 0), (.int .i64 0), (.int .i64 0), (.int .i64 0)] [(0, 1, (.const (.int .u8 74))), (1, 1, (ci_ 111)), (2, 1, (ci_ 0)), (3, 1, (ci_ 0))]),
 on_ (.store 4 (t_ 2) (t_ 123))]
def x58_48 : XCode := .seq (.region x58_47) .ret
def x58_49 : List XOper := [oq_ 125 (mv_ 0),
 oq_ 126 (.bin .eql (t_ 125) (ci_ 54)),
 oq_ 124 (mv_ 126)]
def x58_50 : List XOper := [oq_ 127 (.build [(.int .u8 0), (.int .i64 0), (.int .i64 0), (.int .i64 0)] [(0, 1, (.const (.int .u8 73))), (1, 1, (ci_ 103)), (2, 1, (ci_ 0)), (3, 1, (ci_ 0))]),
 on_ (.store 4 (t_ 2) (t_ 127))]
def x58_51 : XCode := .seq (.region x58_50) .ret
def x58_52 : XCode := .cnd (t_ 124) x58_51 .skip
def x58_53 : XCode := .seq (.region x58_49) x58_52
def x58_54 : XCode := .cnd (t_ 120) x58_48 x58_53
def x58_55 : XCode := .seq (.region x58_46) x58_54
def x58_56 : XCode := .cnd (t_ 116) x58_45 x58_55
def x58_57 : XCode := .seq (.region x58_43) x58_56
def x58_58 : XCode := .cnd (t_ 112) x58_42 x58_57
def x58_59 : XCode := .seq (.region x58_40) x58_58
def x58_60 : XCode := .cnd (t_ 107) x58_39 x58_59
def x58_61 : XCode := .seq (.region x58_37) x58_60
def x58_62 : XCode := .cnd (t_ 102) x58_36 x58_61
def x58_63 : XCode := .seq (.region x58_34) x58_62
def x58_64 : XCode := .cnd (t_ 97) x58_33 x58_63
def x58_65 : XCode := .seq (.region x58_31) x58_64
def x58_66 : XCode := .cnd (t_ 92) x58_30 x58_65
def x58_67 : XCode := .seq (.region x58_28) x58_66
def x58_68 : XCode := .cnd (t_ 87) x58_27 x58_67
def x58_69 : XCode := .seq (.region x58_25) x58_68
def x58_70 : XCode := .cnd (t_ 82) x58_24 x58_69
def x58_71 : XCode := .seq (.region x58_22) x58_70
def x58_72 : XCode := .cnd (t_ 77) x58_21 x58_71
def x58_73 : XCode := .seq (.region x58_19) x58_72
def x58_74 : XCode := .block 0 x58_73
def x58_75 : List XOper := [oq_ 128 (.build [(.int .u8 0), (.int .i64 0), (.int .i64 0), (.int .i64 0)] [(0, 1, (.const (.int .u8 78))), (1, 1, (ci_ 115)), (2, 1, (ci_ 0)), (3, 1, (ci_ 0))]),
 on_ (.store 4 (t_ 2) (t_ 128))]
def x58_76 : XCode := .seq (.region x58_75) .ret
def x58_77 : XCode := .seq x58_74 x58_76
def x58_78 : XCode := .seq (.region x58_18) x58_77
def x58_79 : XCode := .seq x58_17 x58_78
def x58_80 : XCode := .seq (.region x58_12) x58_79
def x58_81 : XCode := .seq x58_11 x58_80
def x58_82 : XCode := .seq x58_6 x58_81
def x58_83 : XCode := .seq (.region x58_1) x58_82
def x58_84 : XCode := .seq (.region x58_0) x58_83
def x58 : XCode := x58_84
theorem fx58 : fnx Try.prog 58 = some (129, [(2, (some (.agg, 4)))], x58) := by kernel_rfl
def x59_0 : List XOper := [oq_ 2 (.mv (ci_ 0)),
 oq_ 3 (.mv (ci_ 0))]
def x59_1 : List XOper := [oq_ 4 (mv_ 0)]
def x59_2 : List XOper := [oq_ 6 (.bin .eql (t_ 4) (.const (.int .u8 73))),
 oq_ 5 (mv_ 6)]
def x59_3 : List XOper := [oq_ 7 (.bin .eql (t_ 4) (.const (.int .u8 83))),
 oq_ 5 (mv_ 7)]
def x59_4 : XCode := .cnd (t_ 5) .skip (.region x59_3)
def x59_5 : XCode := .seq (.region x59_2) x59_4
def x59_6 : List XOper := [oq_ 2 (.mv (ci_ (-2048))),
 oq_ 3 (.mv (ci_ 2047))]
def x59_7 : XCode := .seq (.region x59_6) .ret
def x59_8 : List XOper := [oq_ 9 (.bin .eql (t_ 4) (.const (.int .u8 84))),
 oq_ 8 (mv_ 9)]
def x59_9 : List XOper := [oq_ 2 (.mv (ci_ 0)),
 oq_ 3 (.mv (ci_ 63))]
def x59_10 : XCode := .seq (.region x59_9) .ret
def x59_11 : List XOper := [oq_ 11 (.bin .eql (t_ 4) (.const (.int .u8 66))),
 oq_ 10 (mv_ 11)]
def x59_12 : List XOper := [oq_ 2 (.mv (ci_ (-4096))),
 oq_ 3 (.mv (ci_ 4094))]
def x59_13 : XCode := .seq (.region x59_12) .ret
def x59_14 : List XOper := [oq_ 13 (.bin .eql (t_ 4) (.const (.int .u8 85))),
 oq_ 12 (mv_ 13)]
def x59_15 : List XOper := [oq_ 2 (.mv (ci_ (-524288))),
 oq_ 3 (.mv (ci_ 524287))]
def x59_16 : XCode := .seq (.region x59_15) .ret
def x59_17 : List XOper := [oq_ 15 (.bin .eql (t_ 4) (.const (.int .u8 74))),
 oq_ 14 (mv_ 15)]
def x59_18 : List XOper := [oq_ 2 (.mv (ci_ (-1048576))),
 oq_ 3 (.mv (ci_ 1048574))]
def x59_19 : XCode := .seq (.region x59_18) .ret
def x59_20 : XCode := .cnd (t_ 14) x59_19 .skip
def x59_21 : XCode := .seq (.region x59_17) x59_20
def x59_22 : XCode := .cnd (t_ 12) x59_16 x59_21
def x59_23 : XCode := .seq (.region x59_14) x59_22
def x59_24 : XCode := .cnd (t_ 10) x59_13 x59_23
def x59_25 : XCode := .seq (.region x59_11) x59_24
def x59_26 : XCode := .cnd (t_ 8) x59_10 x59_25
def x59_27 : XCode := .seq (.region x59_8) x59_26
def x59_28 : XCode := .cnd (t_ 5) x59_7 x59_27
def x59_29 : XCode := .seq x59_5 x59_28
def x59_30 : XCode := .block 0 x59_29
def x59_31 : XCode := .seq (.region x59_1) x59_30
def x59_32 : List XOper := [oq_ 2 (.mv (ci_ 1)),
 oq_ 3 (.mv (ci_ 0))]
def x59_33 : XCode := .seq (.region x59_32) .ret
def x59_34 : XCode := .seq x59_31 x59_33
def x59_35 : XCode := .seq (.region x59_0) x59_34
def x59 : XCode := x59_35
theorem fx59 : fnx Try.prog 59 = some (16, [(2, none), (3, none)], x59) := by kernel_rfl
def x60_0 : List XOper := [oq_ 6 (.mv (ci_ 0))]
def x60_1 : List XOper := [oq_ 10 (mv_ 0),
 oq_ 11 (.bin .lss (t_ 10) (ci_ 0))]
def x60_2 : List XOper := [oq_ 12 (mv_ 0),
 oq_ 13 (.bin .add (t_ 12) (ci_ 2097152)),
 oq_ 0 (mv_ 13)]
def x60_3 : XCode := .cnd (t_ 11) (.region x60_2) .skip
def x60_4 : XCode := .seq (.region x60_1) x60_3
def x60_5 : List XOper := [oq_ 7 (.mv (ci_ 0))]
def x60_6 : List XOper := [oq_ 14 (mv_ 7),
 oq_ 15 (mv_ 1),
 oq_ 16 (.bin .lss (t_ 14) (t_ 15))]
def x60_7 : XCode := .cnd (t_ 16) .skip (.exit 0)
def x60_8 : XCode := .seq (.region x60_6) x60_7
def x60_9 : List XOper := [oq_ 19 (mv_ 0),
 oq_ 20 (.bin .quo (t_ 19) (ci_ 2)),
 oq_ 0 (mv_ 20)]
def x60_10 : XCode := .block 1 (.region x60_9)
def x60_11 : List XOper := [oq_ 17 (mv_ 7),
 oq_ 18 (.bin .add (t_ 17) (ci_ 1)),
 oq_ 7 (mv_ 18)]
def x60_12 : XCode := .seq x60_10 (.region x60_11)
def x60_13 : XCode := .seq x60_8 x60_12
def x60_14 : XCode := .loop x60_13
def x60_15 : XCode := .block 0 x60_14
def x60_16 : XCode := .seq (.region x60_5) x60_15
def x60_17 : List XOper := [oq_ 8 (.mv (ci_ 1))]
def x60_18 : List XOper := [oq_ 9 (.mv (ci_ 0))]
def x60_19 : List XOper := [oq_ 21 (mv_ 9),
 oq_ 22 (mv_ 2),
 oq_ 23 (.bin .lss (t_ 21) (t_ 22))]
def x60_20 : XCode := .cnd (t_ 23) .skip (.exit 2)
def x60_21 : XCode := .seq (.region x60_19) x60_20
def x60_22 : List XOper := [oq_ 26 (mv_ 8),
 oq_ 27 (.bin .mul (t_ 26) (ci_ 2)),
 oq_ 8 (mv_ 27)]
def x60_23 : XCode := .block 3 (.region x60_22)
def x60_24 : List XOper := [oq_ 24 (mv_ 9),
 oq_ 25 (.bin .add (t_ 24) (ci_ 1)),
 oq_ 9 (mv_ 25)]
def x60_25 : XCode := .seq x60_23 (.region x60_24)
def x60_26 : XCode := .seq x60_21 x60_25
def x60_27 : XCode := .loop x60_26
def x60_28 : XCode := .block 2 x60_27
def x60_29 : XCode := .seq (.region x60_18) x60_28
def x60_30 : List XOper := [oq_ 28 (mv_ 0),
 oq_ 29 (mv_ 8),
 oq_ 30 (.bin .rem (t_ 28) (t_ 29)),
 oq_ 6 (mv_ 30)]
def x60_31 : XCode := .seq (.region x60_30) .ret
def x60_32 : XCode := .seq x60_29 x60_31
def x60_33 : XCode := .seq (.region x60_17) x60_32
def x60_34 : XCode := .seq x60_16 x60_33
def x60_35 : XCode := .seq x60_4 x60_34
def x60_36 : XCode := .seq (.region x60_0) x60_35
def x60 : XCode := x60_36
theorem fx60 : fnx Try.prog 60 = some (31, [(6, none)], x60) := by kernel_rfl
def x61_0 : List XOper := [oq_ 2 (.mv (.const (.bool false)))]
def x61_1 : List XOper := [oq_ 10 (mv_ 0),
 oq_ 11 (.nilck (t_ 10)),
 oq_ 12 (.faddr 0 (t_ 11)),
 oq_ 13 (.load .one 1 (t_ 12)),
 oc_ 14 72 [(t_ 13)],
 oq_ 9 (mv_ 14),
 oq_ 15 (.ext (t_ 9) 0),
 oq_ 16 (.ext (t_ 9) 1),
 oq_ 3 (.new [(.int .i64 0), (.int .i64 0), (.int .i64 0), (.int .i64 0), (.int .i64 0)]),
 on_ (.store 5 (t_ 3) (t_ 15)),
 oq_ 4 (mv_ 16)]
def x61_2 : List XOper := [oq_ 17 (mv_ 4),
 oq_ 18 (.un .not (t_ 17))]
def x61_3 : List XOper := [oq_ 2 (.mv (.const (.bool false)))]
def x61_4 : XCode := .seq (.region x61_3) .ret
def x61_5 : XCode := .cnd (t_ 18) x61_4 .skip
def x61_6 : XCode := .seq (.region x61_2) x61_5
def x61_7 : List XOper := [oq_ 19 (mv_ 0),
 oq_ 20 (.nilck (t_ 19)),
 oq_ 21 (.faddr 0 (t_ 20)),
 oq_ 22 (.load .one 1 (t_ 21)),
 oq_ 23 (.faddr 2 (t_ 3)),
 oq_ 24 (.load (.int .i64) 1 (t_ 23)),
 oq_ 25 (.nilck (t_ 22)),
 oq_ 26 (.faddr 1 (t_ 25)),
 oq_ 27 (.iaddrA true 32 1 (t_ 26) (t_ 24)),
 oq_ 28 (.load (.int .u64) 1 (t_ 27)),
 oq_ 29 (.faddr 4 (t_ 3)),
 oq_ 30 (.load (.int .i64) 1 (t_ 29)),
 oc_ 31 73 [(t_ 30)],
 oq_ 5 (mv_ 28),
 oq_ 6 (mv_ 31)]
def x61_8 : List XOper := [oq_ 32 (mv_ 0),
 oq_ 33 (.nilck (t_ 32)),
 oq_ 34 (.faddr 0 (t_ 33)),
 oq_ 35 (.load .one 1 (t_ 34)),
 oq_ 36 (.nilck (t_ 35)),
 oq_ 37 (.faddr 33 (t_ 36)),
 oq_ 38 (.load (.int .u64) 1 (t_ 37)),
 oq_ 39 (.bin .add (t_ 38) (.const (.int .u64 4))),
 oq_ 7 (mv_ 39)]
def x61_9 : List XOper := [oq_ 40 (.faddr 0 (t_ 3)),
 oq_ 41 (.load (.int .i64) 1 (t_ 40)),
 oq_ 8 (mv_ 41)]
def x61_10 : List XOper := [oq_ 45 (mv_ 8),
 oq_ 46 (.bin .leq (t_ 45) (ci_ 27)),
 oq_ 44 (mv_ 46)]
def x61_11 : List XOper := [oq_ 48 (mv_ 0),
 oq_ 49 (.nilck (t_ 48)),
 oq_ 50 (.faddr 0 (t_ 49)),
 oq_ 51 (.load .one 1 (t_ 50)),
 oq_ 52 (.faddr 1 (t_ 3)),
 oq_ 53 (.load (.int .i64) 1 (t_ 52)),
 oq_ 54 (mv_ 8),
 oq_ 55 (mv_ 5),
 oq_ 56 (mv_ 0),
 oq_ 57 (.nilck (t_ 56)),
 oq_ 58 (.faddr 0 (t_ 57)),
 oq_ 59 (.load .one 1 (t_ 58)),
 oq_ 60 (.faddr 3 (t_ 3)),
 oq_ 61 (.load (.int .i64) 1 (t_ 60)),
 oq_ 62 (.nilck (t_ 59)),
 oq_ 63 (.faddr 1 (t_ 62)),
 oq_ 64 (.iaddrA true 32 1 (t_ 63) (t_ 61)),
 oq_ 65 (.load (.int .u64) 1 (t_ 64)),
 oc_ 66 74 [(t_ 54), (t_ 55), (t_ 65)],
 oq_ 47 (mv_ 66),
 oq_ 67 (.ext (t_ 47) 0),
 oq_ 68 (.ext (t_ 47) 1),
 oq_ 69 (.nilck (t_ 51)),
 oq_ 70 (.faddr 1 (t_ 69)),
 oq_ 71 (.iaddrA true 32 1 (t_ 70) (t_ 53)),
 on_ (.store 1 (t_ 71) (t_ 67))]
def x61_12 : List XOper := [oq_ 73 (mv_ 8),
 oq_ 74 (.bin .leq (t_ 73) (ci_ 37)),
 oq_ 72 (mv_ 74)]
def x61_13 : List XOper := [oq_ 75 (.load .agg 5 (t_ 3)),
 oq_ 76 (.build [(.int .i64 0), (.int .i64 0), (.int .i64 0), (.int .i64 0), (.int .i64 0)] [(0, 1, (ci_ 28)), (4, 1, (ci_ 1))]),
 oq_ 77 (.eqagg false [0, 0, 0, 0, 0] (t_ 75) (t_ 76))]
def x61_14 : List XOper := [oq_ 78 (mv_ 0),
 oq_ 79 (.nilck (t_ 78)),
 oq_ 80 (.faddr 3 (t_ 79)),
 oq_ 81 (.load (.int .i64) 1 (t_ 80)),
 oq_ 82 (.bin .add (t_ 81) (ci_ 1)),
 oq_ 83 (.nilck (t_ 78)),
 oq_ 84 (.faddr 3 (t_ 83)),
 on_ (.store 1 (t_ 84) (t_ 82))]
def x61_15 : XCode := .cnd (t_ 77) (.region x61_14) .skip
def x61_16 : XCode := .seq (.region x61_13) x61_15
def x61_17 : List XOper := [oq_ 86 (mv_ 0),
 oq_ 87 (.nilck (t_ 86)),
 oq_ 88 (.faddr 0 (t_ 87)),
 oq_ 89 (.load .one 1 (t_ 88)),
 oq_ 90 (.faddr 1 (t_ 3)),
 oq_ 91 (.load (.int .i64) 1 (t_ 90)),
 oq_ 92 (mv_ 8),
 oc_ 93 75 [(t_ 92)],
 oq_ 94 (mv_ 5),
 oq_ 95 (mv_ 6),
 oc_ 96 74 [(t_ 93), (t_ 94), (t_ 95)],
 oq_ 85 (mv_ 96),
 oq_ 97 (.ext (t_ 85) 0),
 oq_ 98 (.ext (t_ 85) 1),
 oq_ 99 (.nilck (t_ 89)),
 oq_ 100 (.faddr 1 (t_ 99)),
 oq_ 101 (.iaddrA true 32 1 (t_ 100) (t_ 91)),
 on_ (.store 1 (t_ 101) (t_ 97))]
def x61_18 : XCode := .seq x61_16 (.draw x61_17 [[], [0], [0, 1], [0, 1, 2], [], [4], [], [6], [], [], [6, 7, 8, 9], [6, 7, 8, 9, 10], [6, 7, 8, 9, 10, 11], [6, 7, 8, 9, 10, 11], [0, 1, 2, 3], [0, 1, 2, 3, 14], [0, 1, 2, 3, 4, 5, 6, 7, 8, 9, 10, 11, 12, 14, 15], [0, 1, 2, 3, 4, 5, 6, 7, 8, 9, 10, 11, 12, 14, 15, 16]])
def x61_19 : List XOper := [oq_ 103 (mv_ 8),
 oq_ 104 (.bin .leq (t_ 103) (ci_ 44)),
 oq_ 102 (mv_ 104)]
def x61_20 : List XOper := [oq_ 105 (mv_ 0),
 oq_ 106 (.load .agg 5 (t_ 3)),
 oc_ 107 76 [(t_ 105), (t_ 106)],
 oq_ 4 (mv_ 107)]
def x61_21 : List XOper := [oq_ 109 (mv_ 8),
 oq_ 110 (.bin .leq (t_ 109) (ci_ 50)),
 oq_ 108 (mv_ 110)]
def x61_22 : List XOper := [oq_ 111 (mv_ 8),
 oq_ 112 (mv_ 5),
 oq_ 113 (mv_ 0),
 oq_ 114 (.nilck (t_ 113)),
 oq_ 115 (.faddr 0 (t_ 114)),
 oq_ 116 (.load .one 1 (t_ 115)),
 oq_ 117 (.faddr 3 (t_ 3)),
 oq_ 118 (.load (.int .i64) 1 (t_ 117)),
 oq_ 119 (.nilck (t_ 116)),
 oq_ 120 (.faddr 1 (t_ 119)),
 oq_ 121 (.iaddrA true 32 1 (t_ 120) (t_ 118)),
 oq_ 122 (.load (.int .u64) 1 (t_ 121)),
 oc_ 123 77 [(t_ 111), (t_ 112), (t_ 122)]]
def x61_23 : List XOper := [oq_ 124 (mv_ 0),
 oq_ 125 (.nilck (t_ 124)),
 oq_ 126 (.faddr 0 (t_ 125)),
 oq_ 127 (.load .one 1 (t_ 126)),
 oq_ 128 (.nilck (t_ 127)),
 oq_ 129 (.faddr 33 (t_ 128)),
 oq_ 130 (.load (.int .u64) 1 (t_ 129)),
 oq_ 131 (mv_ 6),
 oq_ 132 (.bin .add (t_ 130) (t_ 131)),
 oq_ 7 (mv_ 132)]
def x61_24 : XCode := .cnd (t_ 123) (.region x61_23) .skip
def x61_25 : XCode := .seq (.draw x61_22 [[], [], [], [2], [2, 3], [2, 3, 4], [], [6], [2, 3, 4, 5], [2, 3, 4, 5, 8], [2, 3, 4, 5, 6, 7, 8, 9], [2, 3, 4, 5, 6, 7, 8, 9, 10], [0, 1, 2, 3, 4, 5, 6, 7, 8, 9, 10, 11]]) x61_24
def x61_26 : List XOper := [oq_ 134 (mv_ 8),
 oq_ 135 (.bin .eql (t_ 134) (ci_ 51)),
 oq_ 133 (mv_ 135)]
def x61_27 : List XOper := [oq_ 136 (mv_ 0),
 oq_ 137 (.nilck (t_ 136)),
 oq_ 138 (.faddr 0 (t_ 137)),
 oq_ 139 (.load .one 1 (t_ 138)),
 oq_ 140 (.faddr 1 (t_ 3)),
 oq_ 141 (.load (.int .i64) 1 (t_ 140)),
 oq_ 142 (mv_ 6),
 oq_ 143 (.bin .shl (t_ 142) (.const (.int .u64 12))),
 oq_ 144 (.nilck (t_ 139)),
 oq_ 145 (.faddr 1 (t_ 144)),
 oq_ 146 (.iaddrA true 32 1 (t_ 145) (t_ 141)),
 on_ (.store 1 (t_ 146) (t_ 143))]
def x61_28 : List XOper := [oq_ 148 (mv_ 8),
 oq_ 149 (.bin .eql (t_ 148) (ci_ 52)),
 oq_ 147 (mv_ 149)]
def x61_29 : List XOper := [oq_ 150 (mv_ 0),
 oq_ 151 (.nilck (t_ 150)),
 oq_ 152 (.faddr 0 (t_ 151)),
 oq_ 153 (.load .one 1 (t_ 152)),
 oq_ 154 (.faddr 1 (t_ 3)),
 oq_ 155 (.load (.int .i64) 1 (t_ 154)),
 oq_ 156 (mv_ 6),
 oq_ 157 (.bin .shl (t_ 156) (.const (.int .u64 12))),
 oq_ 158 (mv_ 0),
 oq_ 159 (.nilck (t_ 158)),
 oq_ 160 (.faddr 0 (t_ 159)),
 oq_ 161 (.load .one 1 (t_ 160)),
 oq_ 162 (.nilck (t_ 161)),
 oq_ 163 (.faddr 33 (t_ 162)),
 oq_ 164 (.load (.int .u64) 1 (t_ 163)),
 oq_ 165 (.bin .add (t_ 157) (t_ 164)),
 oq_ 166 (.nilck (t_ 153)),
 oq_ 167 (.faddr 1 (t_ 166)),
 oq_ 168 (.iaddrA true 32 1 (t_ 167) (t_ 155)),
 on_ (.store 1 (t_ 168) (t_ 165))]
def x61_30 : List XOper := [oq_ 170 (mv_ 8),
 oq_ 171 (.bin .eql (t_ 170) (ci_ 53)),
 oq_ 169 (mv_ 171)]
def x61_31 : List XOper := [oq_ 172 (mv_ 0),
 oq_ 173 (.nilck (t_ 172)),
 oq_ 174 (.faddr 0 (t_ 173)),
 oq_ 175 (.load .one 1 (t_ 174)),
 oq_ 176 (.faddr 1 (t_ 3)),
 oq_ 177 (.load (.int .i64) 1 (t_ 176)),
 oq_ 178 (mv_ 7),
 oq_ 179 (mv_ 0),
 oq_ 180 (.nilck (t_ 179)),
 oq_ 181 (.faddr 0 (t_ 180)),
 oq_ 182 (.load .one 1 (t_ 181)),
 oq_ 183 (.nilck (t_ 182)),
 oq_ 184 (.faddr 33 (t_ 183)),
 oq_ 185 (.load (.int .u64) 1 (t_ 184)),
 oq_ 186 (mv_ 6),
 oq_ 187 (.bin .add (t_ 185) (t_ 186)),
 oq_ 188 (.nilck (t_ 175)),
 oq_ 189 (.faddr 1 (t_ 188)),
 oq_ 190 (.iaddrA true 32 1 (t_ 189) (t_ 177)),
 on_ (.store 1 (t_ 190) (t_ 178)),
 oq_ 7 (mv_ 187)]
def x61_32 : List XOper := [oq_ 192 (mv_ 8),
 oq_ 193 (.bin .eql (t_ 192) (ci_ 54)),
 oq_ 191 (mv_ 193)]
def x61_33 : List XOper := [oq_ 194 (mv_ 0),
 oq_ 195 (.nilck (t_ 194)),
 oq_ 196 (.faddr 0 (t_ 195)),
 oq_ 197 (.load .one 1 (t_ 196)),
 oq_ 198 (.faddr 1 (t_ 3)),
 oq_ 199 (.load (.int .i64) 1 (t_ 198)),
 oq_ 200 (mv_ 7),
 oq_ 201 (mv_ 5),
 oq_ 202 (mv_ 6),
 oq_ 203 (.bin .add (t_ 201) (t_ 202)),
 oq_ 204 (.bin .andNot (t_ 203) (.const (.int .u64 1))),
 oq_ 205 (.nilck (t_ 197)),
 oq_ 206 (.faddr 1 (t_ 205)),
 oq_ 207 (.iaddrA true 32 1 (t_ 206) (t_ 199)),
 on_ (.store 1 (t_ 207) (t_ 200)),
 oq_ 7 (mv_ 204)]
def x61_34 : List XOper := [oq_ 42 (mv_ 0),
 oc_ 43 78 [(t_ 42)],
 oq_ 4 (mv_ 43)]
def x61_35 : XCode := .cnd (t_ 191) (.draw x61_33 [[], [0], [0, 1], [0, 1, 2], [], [4], [], [], [], [7, 8], [7, 8, 9], [0, 1, 2, 3], [0, 1, 2, 3, 11], [0, 1, 2, 3, 4, 5, 6, 11, 12], [0, 1, 2, 3, 4, 5, 6, 11, 12, 13], [0, 1, 2, 3, 4, 5, 6, 7, 8, 9, 10, 11, 12, 13, 14]]) (.region x61_34)
def x61_36 : XCode := .seq (.region x61_32) x61_35
def x61_37 : XCode := .cnd (t_ 169) (.draw x61_31 [[], [0], [0, 1], [0, 1, 2], [], [4], [], [], [7], [7, 8], [7, 8, 9], [7, 8, 9, 10], [7, 8, 9, 10, 11], [7, 8, 9, 10, 11, 12], [], [7, 8, 9, 10, 11, 12, 13, 14], [0, 1, 2, 3], [0, 1, 2, 3, 16], [0, 1, 2, 3, 4, 5, 6, 7, 8, 9, 10, 11, 12, 13, 16, 17], [0, 1, 2, 3, 4, 5, 6, 7, 8, 9, 10, 11, 12, 13, 16, 17, 18], [0, 1, 2, 3, 4, 5, 6, 7, 8, 9, 10, 11, 12, 13, 14, 15, 16, 17, 18, 19]]) x61_36
def x61_38 : XCode := .seq (.region x61_30) x61_37
def x61_39 : XCode := .cnd (t_ 147) (.draw x61_29 [[], [0], [0, 1], [0, 1, 2], [], [4], [], [6], [], [8], [8, 9], [8, 9, 10], [8, 9, 10, 11], [8, 9, 10, 11, 12], [8, 9, 10, 11, 12, 13], [6, 7, 8, 9, 10, 11, 12, 13, 14], [0, 1, 2, 3], [0, 1, 2, 3, 16], [0, 1, 2, 3, 4, 5, 6, 7, 8, 9, 10, 11, 12, 13, 14, 15, 16, 17], [0, 1, 2, 3, 4, 5, 6, 7, 8, 9, 10, 11, 12, 13, 14, 15, 16, 17, 18]]) x61_38
def x61_40 : XCode := .seq (.region x61_28) x61_39
def x61_41 : XCode := .cnd (t_ 133) (.draw x61_27 [[], [0], [0, 1], [0, 1, 2], [], [4], [], [6], [0, 1, 2, 3], [0, 1, 2, 3, 8], [0, 1, 2, 3, 4, 5, 6, 7, 8, 9], [0, 1, 2, 3, 4, 5, 6, 7, 8, 9, 10]]) x61_40
def x61_42 : XCode := .seq (.region x61_26) x61_41
def x61_43 : XCode := .cnd (t_ 108) x61_25 x61_42
def x61_44 : XCode := .seq (.region x61_21) x61_43
def x61_45 : XCode := .cnd (t_ 102) (.region x61_20) x61_44
def x61_46 : XCode := .seq (.region x61_19) x61_45
def x61_47 : XCode := .cnd (t_ 72) x61_18 x61_46
def x61_48 : XCode := .seq (.region x61_12) x61_47
def x61_49 : XCode := .cnd (t_ 44) (.draw x61_11 [[], [0], [0, 1], [0, 1, 2], [], [4], [], [], [], [8], [8, 9], [8, 9, 10], [], [12], [8, 9, 10, 11], [8, 9, 10, 11, 14], [8, 9, 10, 11, 12, 13, 14, 15], [8, 9, 10, 11, 12, 13, 14, 15, 16], [6, 7, 8, 9, 10, 11, 12, 13, 14, 15, 16, 17], [6, 7, 8, 9, 10, 11, 12, 13, 14, 15, 16, 17, 18], [6, 7, 8, 9, 10, 11, 12, 13, 14, 15, 16, 17, 18, 19], [6, 7, 8, 9, 10, 11, 12, 13, 14, 15, 16, 17, 18, 19], [0, 1, 2, 3], [0, 1, 2, 3, 22], [0, 1, 2, 3, 4, 5, 6, 7, 8, 9, 10, 11, 12, 13, 14, 15, 16, 17, 18, 19, 20, 22, 23], [0, 1, 2, 3, 4, 5, 6, 7, 8, 9, 10, 11, 12, 13, 14, 15, 16, 17, 18, 19, 20, 22, 23, 24]]) x61_48
def x61_50 : XCode := .seq (.region x61_10) x61_49
def x61_51 : XCode := .block 0 x61_50
def x61_52 : XCode := .seq (.region x61_9) x61_51
def x61_53 : List XOper := [oq_ 208 (mv_ 4)]
def x61_54 : List XOper := [oq_ 209 (mv_ 0),
 oq_ 210 (.nilck (t_ 209)),
 oq_ 211 (.faddr 0 (t_ 210)),
 oq_ 212 (.load .one 1 (t_ 211)),
 oq_ 213 (.nilck (t_ 212)),
 oq_ 214 (.faddr 1 (t_ 213)),
 oq_ 215 (.iaddrA false 32 1 (t_ 214) (ci_ 0)),
 on_ (.store 1 (t_ 215) (.const (.int .u64 0)))]
def x61_55 : List XOper := [oq_ 216 (mv_ 0),
 oq_ 217 (.nilck (t_ 216)),
 oq_ 218 (.faddr 0 (t_ 217)),
 oq_ 219 (.load .one 1 (t_ 218)),
 oq_ 220 (mv_ 7),
 oq_ 221 (.nilck (t_ 219)),
 oq_ 222 (.faddr 33 (t_ 221)),
 on_ (.store 1 (t_ 222) (t_ 220))]
def x61_56 : XCode := .seq (.region x61_54) (.region x61_55)
def x61_57 : XCode := .cnd (t_ 208) x61_56 .skip
def x61_58 : XCode := .seq (.region x61_53) x61_57
def x61_59 : List XOper := [oq_ 223 (mv_ 4),
 oq_ 2 (mv_ 223)]
def x61_60 : XCode := .seq (.region x61_59) .ret
def x61_61 : XCode := .seq x61_58 x61_60
def x61_62 : XCode := .seq x61_52 x61_61
def x61_63 : XCode := .seq (.region x61_8) x61_62
def x61_64 : XCode := .seq (.draw x61_7 [[], [0], [0, 1], [0, 1, 2], [], [4], [0, 1, 2, 3], [0, 1, 2, 3, 6], [0, 1, 2, 3, 4, 5, 6, 7], [0, 1, 2, 3, 4, 5, 6, 7, 8], [], [10], [10, 11], [0, 1, 2, 3, 4, 5, 6, 7, 8, 9, 10, 11, 12], [0, 1, 2, 3, 4, 5, 6, 7, 8, 9, 10, 11, 12, 13]]) x61_63
def x61_65 : XCode := .seq x61_6 x61_64
def x61_66 : XCode := .seq (.region x61_1) x61_65
def x61_67 : XCode := .seq (.region x61_0) x61_66
def x61 : XCode := x61_67
theorem fx61 : fnx Try.prog 61 = some (224, [(2, none)], x61) := by kernel_rfl
def x72_0 : List XOper := [oq_ 2 (.new [(.int .i64 0), (.int .i64 0), (.int .i64 0), (.int .i64 0), (.int .i64 0)]),
 oq_ 3 (.mv (.const (.bool false)))]
def x72_1 : List XOper := [oq_ 11 (mv_ 0),
 oq_ 12 (mv_ 0),
 oq_ 13 (.nilck (t_ 12)),
 oq_ 14 (.faddr 33 (t_ 13)),
 oq_ 15 (.load (.int .u64) 1 (t_ 14)),
 oc_ 16 83 [(t_ 11), (t_ 15), (ci_ 4)],
 oq_ 10 (mv_ 16),
 oq_ 17 (.ext (t_ 10) 0),
 oq_ 18 (.ext (t_ 10) 1),
 oq_ 4 (mv_ 17),
 oq_ 5 (mv_ 18)]
def x72_2 : List XOper := [oq_ 19 (mv_ 5),
 oq_ 20 (.un .not (t_ 19))]
def x72_3 : List XOper := [oq_ 21 (.build [(.int .i64 0), (.int .i64 0), (.int .i64 0), (.int .i64 0), (.int .i64 0)] []),
 on_ (.store 5 (t_ 2) (t_ 21)),
 oq_ 3 (.mv (.const (.bool false)))]
def x72_4 : XCode := .seq (.region x72_3) .ret
def x72_5 : XCode := .cnd (t_ 20) x72_4 .skip
def x72_6 : XCode := .seq (.region x72_2) x72_5
def x72_7 : List XOper := [oq_ 22 (mv_ 4),
 oc_ 23 84 [(t_ 22)],
 oq_ 24 (.conv .u32 (t_ 23)),
 oq_ 6 (mv_ 24)]
def x72_8 : List XOper := [oq_ 26 (mv_ 0),
 oq_ 27 (.nilck (t_ 26)),
 oq_ 28 (.faddr 36 (t_ 27)),
 oq_ 29 (.load .one 1 (t_ 28)),
 oq_ 30 (mv_ 6),
 oq_ 31 (.lookup 35 26 (.int .u32) (.agg #[(.int .i64 0), (.int .i64 0), (.int .i64 0), (.int .i64 0), (.int .i64 0)]) true (t_ 29) (t_ 30)),
 oq_ 25 (mv_ 31),
 oq_ 32 (.ext (t_ 25) 0),
 oq_ 33 (.ext (t_ 25) 1),
 oq_ 7 (.new [(.int .i64 0), (.int .i64 0), (.int .i64 0), (.int .i64 0), (.int .i64 0)]),
 on_ (.store 5 (t_ 7) (t_ 32)),
 oq_ 8 (mv_ 33)]
def x72_9 : List XOper := [oq_ 34 (mv_ 8),
 oq_ 35 (.un .not (t_ 34))]
def x72_10 : List XOper := [oq_ 9 (.mv (ci_ 0))]
def x72_11 : List XOper := [oq_ 37 (mv_ 6),
 oc_ 38 20 [(t_ 37)],
 oq_ 36 (mv_ 38),
 oq_ 39 (.ext (t_ 36) 0),
 oq_ 40 (.ext (t_ 36) 1),
 on_ (.store 5 (t_ 7) (t_ 39)),
 oq_ 9 (mv_ 40)]
def x72_12 : List XOper := [oq_ 41 (mv_ 9),
 oq_ 42 (.bin .neq (t_ 41) (ci_ 0))]
def x72_13 : List XOper := [oq_ 43 (.load .agg 5 (t_ 7)),
 on_ (.store 5 (t_ 2) (t_ 43)),
 oq_ 3 (.mv (.const (.bool false)))]
def x72_14 : XCode := .seq (.region x72_13) .ret
def x72_15 : XCode := .cnd (t_ 42) x72_14 .skip
def x72_16 : XCode := .seq (.region x72_12) x72_15
def x72_17 : XCode := .seq (.region x72_11) x72_16
def x72_18 : List XOper := [oq_ 44 (mv_ 0),
 oq_ 45 (.nilck (t_ 44)),
 oq_ 46 (.faddr 36 (t_ 45)),
 oq_ 47 (.load .one 1 (t_ 46)),
 oq_ 48 (mv_ 6),
 oq_ 49 (.load .agg 5 (t_ 7)),
 on_ (.mapupd 35 26 (.int .u32) (t_ 47) (t_ 48) (t_ 49))]
def x72_19 : XCode := .seq x72_17 (.draw x72_18 [[], [0], [0, 1], [0, 1, 2], [], [], [0, 1, 2, 3, 4, 5]])
def x72_20 : XCode := .seq (.region x72_10) x72_19
def x72_21 : XCode := .cnd (t_ 35) x72_20 .skip
def x72_22 : XCode := .seq (.region x72_9) x72_21
def x72_23 : List XOper := [oq_ 50 (.load .agg 5 (t_ 7)),
 on_ (.store 5 (t_ 2) (t_ 50)),
 oq_ 3 (.mv (.const (.bool true)))]
def x72_24 : XCode := .seq (.region x72_23) .ret
def x72_25 : XCode := .seq x72_22 x72_24
def x72_26 : XCode := .seq (.region x72_8) x72_25
def x72_27 : XCode := .seq (.region x72_7) x72_26
def x72_28 : XCode := .seq x72_6 x72_27
def x72_29 : XCode := .seq (.region x72_1) x72_28
def x72_30 : XCode := .seq (.region x72_0) x72_29
def x72 : XCode := x72_30
theorem fx72 : fnx Try.prog 72 = some (51, [(2, (some (.agg, 5))), (3, none)], x72) := by kernel_rfl
def x73_0 : List XOper := [oq_ 2 (.mv (.const (.int .u64 0)))]
def x73_1 : List XOper := [oq_ 3 (mv_ 0),
 oq_ 4 (.conv .u64 (t_ 3)),
 oq_ 2 (mv_ 4)]
def x73_2 : XCode := .seq (.region x73_1) .ret
def x73_3 : XCode := .seq (.region x73_0) x73_2
def x73 : XCode := x73_3
theorem fx73 : fnx Try.prog 73 = some (5, [(2, none)], x73) := by kernel_rfl
def x74_0 : List XOper := [oq_ 6 (.mv (.const (.int .u64 0))),
 oq_ 7 (.mv (ci_ 0))]
def x74_1 : List XOper := [oq_ 18 (mv_ 0),
 oq_ 19 (mv_ 1),
 oq_ 20 (mv_ 2),
 oc_ 21 85 [(t_ 18), (t_ 19), (t_ 20)],
 oq_ 17 (mv_ 21),
 oq_ 22 (.ext (t_ 17) 0),
 oq_ 23 (.ext (t_ 17) 1),
 oq_ 8 (mv_ 22),
 oq_ 9 (mv_ 23)]
def x74_2 : List XOper := [oq_ 24 (mv_ 9)]
def x74_3 : List XOper := [oq_ 25 (mv_ 8),
 oq_ 6 (mv_ 25),
 oq_ 7 (.mv (ci_ 0))]
def x74_4 : XCode := .seq (.region x74_3) .ret
def x74_5 : XCode := .cnd (t_ 24) x74_4 .skip
def x74_6 : XCode := .seq (.region x74_2) x74_5
def x74_7 : XCode := .seq (.region x74_1) x74_6
def x74_8 : List XOper := [oq_ 27 (mv_ 0),
 oq_ 28 (mv_ 1),
 oq_ 29 (mv_ 2),
 oc_ 30 86 [(t_ 27), (t_ 28), (t_ 29)],
 oq_ 26 (mv_ 30),
 oq_ 31 (.ext (t_ 26) 0),
 oq_ 32 (.ext (t_ 26) 1),
 oq_ 10 (mv_ 31),
 oq_ 11 (mv_ 32)]
def x74_9 : List XOper := [oq_ 33 (mv_ 11)]
def x74_10 : List XOper := [oq_ 34 (mv_ 10),
 oq_ 6 (mv_ 34),
 oq_ 7 (.mv (ci_ 0))]
def x74_11 : XCode := .seq (.region x74_10) .ret
def x74_12 : XCode := .cnd (t_ 33) x74_11 .skip
def x74_13 : XCode := .seq (.region x74_9) x74_12
def x74_14 : XCode := .seq (.region x74_8) x74_13
def x74_15 : List XOper := [oq_ 36 (mv_ 0),
 oc_ 37 87 [(t_ 36)],
 oq_ 35 (mv_ 37),
 oq_ 38 (.ext (t_ 35) 0),
 oq_ 39 (.ext (t_ 35) 1),
 oq_ 40 (.ext (t_ 35) 2),
 oq_ 12 (mv_ 38),
 oq_ 13 (mv_ 39),
 oq_ 14 (mv_ 40)]
def x74_16 : List XOper := [oq_ 41 (mv_ 14),
 oq_ 42 (.un .not (t_ 41))]
def x74_17 : List XOper := [oq_ 6 (.mv (.const (.int .u64 0))),
 oq_ 7 (.mv (ci_ 1))]
def x74_18 : XCode := .seq (.region x74_17) .ret
def x74_19 : XCode := .cnd (t_ 42) x74_18 .skip
def x74_20 : XCode := .seq (.region x74_16) x74_19
def x74_21 : List XOper := [oq_ 44 (mv_ 1),
 oq_ 45 (mv_ 13),
 oc_ 46 36 [(t_ 44), (ci_ 32), (t_ 45)],
 oq_ 43 (mv_ 46),
 oq_ 47 (.ext (t_ 43) 0),
 oq_ 48 (.ext (t_ 43) 1),
 oq_ 1 (mv_ 47)]
def x74_22 : List XOper := [oq_ 50 (mv_ 2),
 oq_ 51 (mv_ 13),
 oc_ 52 36 [(t_ 50), (ci_ 32), (t_ 51)],
 oq_ 49 (mv_ 52),
 oq_ 53 (.ext (t_ 49) 0),
 oq_ 54 (.ext (t_ 49) 1),
 oq_ 2 (mv_ 53)]
def x74_23 : List XOper := [oq_ 55 (mv_ 12),
 oq_ 56 (.bin .eql (t_ 55) (ci_ 3)),
 oq_ 57 (mv_ 56),
 og_ 58 57 false (mv_ 12),
 og_ 59 57 false (.bin .eql (t_ 58) (ci_ 7)),
 ⟨(some 60), .pick (t_ 57) (.const (.bool true)) (t_ 59), none⟩,
 oq_ 61 (mv_ 60),
 og_ 62 61 false (mv_ 12),
 og_ 63 61 false (.bin .eql (t_ 62) (ci_ 8)),
 ⟨(some 64), .pick (t_ 61) (.const (.bool true)) (t_ 63), none⟩]
def x74_24 : List XOper := [oq_ 65 (mv_ 2),
 oq_ 66 (.bin .and (t_ 65) (.const (.int .u64 31))),
 oq_ 2 (mv_ 66)]
def x74_25 : XCode := .cnd (t_ 64) (.region x74_24) .skip
def x74_26 : XCode := .seq (.region x74_23) x74_25
def x74_27 : List XOper := [oq_ 68 (mv_ 12),
 oq_ 69 (mv_ 1),
 oq_ 70 (mv_ 2),
 oc_ 71 74 [(t_ 68), (t_ 69), (t_ 70)],
 oq_ 67 (mv_ 71),
 oq_ 72 (.ext (t_ 67) 0),
 oq_ 73 (.ext (t_ 67) 1),
 oq_ 15 (mv_ 72),
 oq_ 16 (mv_ 73)]
def x74_28 : List XOper := [oq_ 75 (mv_ 15),
 oc_ 76 36 [(t_ 75), (ci_ 32), (.const (.bool true))],
 oq_ 74 (mv_ 76),
 oq_ 77 (.ext (t_ 74) 0),
 oq_ 78 (.ext (t_ 74) 1),
 oq_ 15 (mv_ 77)]
def x74_29 : List XOper := [oq_ 79 (mv_ 15),
 oq_ 80 (mv_ 16),
 oq_ 6 (mv_ 79),
 oq_ 7 (mv_ 80)]
def x74_30 : XCode := .seq (.region x74_29) .ret
def x74_31 : XCode := .seq (.region x74_28) x74_30
def x74_32 : XCode := .seq (.region x74_27) x74_31
def x74_33 : XCode := .seq x74_26 x74_32
def x74_34 : XCode := .seq (.region x74_22) x74_33
def x74_35 : XCode := .seq (.region x74_21) x74_34
def x74_36 : XCode := .seq x74_20 x74_35
def x74_37 : XCode := .seq (.region x74_15) x74_36
def x74_38 : XCode := .seq x74_14 x74_37
def x74_39 : XCode := .seq x74_7 x74_38
def x74_40 : XCode := .seq (.region x74_0) x74_39
def x74 : XCode := x74_40
theorem fx74 : fnx Try.prog 74 = some (81, [(6, none), (7, none)], x74) := by kernel_rfl
def x75_0 : List XOper := [oq_ 2 (.mv (ci_ 0))]
def x75_1 : List XOper := [oq_ 3 (.build [(.int .i64 0), (.int .i64 0), (.int .i64 0), (.int .i64 0), (.int .i64 0), (.int .i64 0), (.int .i64 0), (.int .i64 0), (.int .i64 0), (.int .i64 0)] [(0, 1, (ci_ 1)), (1, 1, (ci_ 4)), (2, 1, (ci_ 5)), (3, 1, (ci_ 6)), (4, 1, (ci_ 9)), (5, 1, (ci_ 10)), (6, 1, (ci_ 3)), (7, 1, (ci_ 7)), (8, 1, (ci_ 8)), (9, 1, (ci_ 18))]),
 oq_ 4 (mv_ 0),
 oq_ 5 (.bin .sub (t_ 4) (ci_ 28)),
 oq_ 6 (.idxA 10 1 (.int .i64) (t_ 3) (t_ 5)),
 oq_ 2 (mv_ 6)]
def x75_2 : XCode := .seq (.region x75_1) .ret
def x75_3 : XCode := .seq (.region x75_0) x75_2
def x75 : XCode := x75_3
theorem fx75 : fnx Try.prog 75 = some (7, [(2, none)], x75) := by kernel_rfl
def x76_0 : List XOper := [oq_ 3 (.box (t_ 1)),
 oq_ 4 (.mv (.const (.bool false)))]
def x76_1 : List XOper := [oq_ 11 (.faddr 0 (t_ 3)),
 oq_ 12 (.load (.int .i64) 1 (t_ 11)),
 oc_ 13 88 [(t_ 12)],
 oq_ 5 (mv_ 13)]
def x76_2 : List XOper := [oq_ 14 (mv_ 0),
 oq_ 15 (.nilck (t_ 14)),
 oq_ 16 (.faddr 0 (t_ 15)),
 oq_ 17 (.load .one 1 (t_ 16)),
 oq_ 18 (.faddr 2 (t_ 3)),
 oq_ 19 (.load (.int .i64) 1 (t_ 18)),
 oq_ 20 (.nilck (t_ 17)),
 oq_ 21 (.faddr 1 (t_ 20)),
 oq_ 22 (.iaddrA true 32 1 (t_ 21) (t_ 19)),
 oq_ 23 (.load (.int .u64) 1 (t_ 22)),
 oq_ 24 (.faddr 4 (t_ 3)),
 oq_ 25 (.load (.int .i64) 1 (t_ 24)),
 oc_ 26 73 [(t_ 25)],
 oq_ 27 (.bin .add (t_ 23) (t_ 26)),
 oq_ 6 (mv_ 27)]
def x76_3 : List XOper := [oq_ 29 (mv_ 0),
 oq_ 30 (.nilck (t_ 29)),
 oq_ 31 (.faddr 0 (t_ 30)),
 oq_ 32 (.load .one 1 (t_ 31)),
 oq_ 33 (mv_ 6),
 oq_ 34 (mv_ 5),
 oc_ 35 83 [(t_ 32), (t_ 33), (t_ 34)],
 oq_ 28 (mv_ 35),
 oq_ 36 (.ext (t_ 28) 0),
 oq_ 37 (.ext (t_ 28) 1),
 oq_ 7 (mv_ 36),
 oq_ 8 (mv_ 37)]
def x76_4 : List XOper := [oq_ 38 (mv_ 8),
 oq_ 39 (.un .not (t_ 38))]
def x76_5 : List XOper := [oq_ 4 (.mv (.const (.bool false)))]
def x76_6 : XCode := .seq (.region x76_5) .ret
def x76_7 : XCode := .cnd (t_ 39) x76_6 .skip
def x76_8 : XCode := .seq (.region x76_4) x76_7
def x76_9 : List XOper := [oq_ 40 (.faddr 0 (t_ 3)),
 oq_ 41 (.load (.int .i64) 1 (t_ 40)),
 oq_ 42 (.bin .geq (t_ 41) (ci_ 42)),
 oq_ 9 (mv_ 42)]
def x76_10 : List XOper := [oq_ 43 (mv_ 0),
 oq_ 44 (.nilck (t_ 43)),
 oq_ 45 (.faddr 4 (t_ 44)),
 oq_ 46 (.load .bool 1 (t_ 45))]
def x76_11 : List XOper := [oq_ 47 (mv_ 0),
 oq_ 48 (mv_ 0),
 oq_ 49 (.nilck (t_ 48)),
 oq_ 50 (.faddr 5 (t_ 49)),
 oq_ 51 (.load .one 1 (t_ 50)),
 oq_ 52 (mv_ 0),
 oq_ 53 (.nilck (t_ 52)),
 oq_ 54 (.faddr 0 (t_ 53)),
 oq_ 55 (.load .one 1 (t_ 54)),
 oq_ 56 (.nilck (t_ 55)),
 oq_ 57 (.faddr 33 (t_ 56)),
 oq_ 58 (.load (.int .u64) 1 (t_ 57)),
 oq_ 59 (mv_ 6),
 oq_ 60 (mv_ 5),
 oq_ 61 (mv_ 9),
 oq_ 62 (.build [(.int .u64 0), (.int .u64 0), (.int .i64 0), (.bool false)] [(0, 1, (t_ 58)), (1, 1, (t_ 59)), (2, 1, (t_ 60)), (3, 1, (t_ 61))]),
 oq_ 63 (.mkslice [(.int .u64 0), (.int .u64 0), (.int .i64 0), (.bool false)] 1 [(0, (t_ 62))]),
 oq_ 64 (.app 4 32 (t_ 51) (t_ 63)),
 oq_ 65 (.nilck (t_ 47)),
 oq_ 66 (.faddr 5 (t_ 65)),
 on_ (.store 1 (t_ 66) (t_ 64))]
def x76_12 : XCode := .cnd (t_ 46) (.draw x76_11 [[], [], [1], [1, 2], [1, 2, 3], [], [5], [5, 6], [5, 6, 7], [5, 6, 7, 8], [5, 6, 7, 8, 9], [5, 6, 7, 8, 9, 10], [], [], [], [5, 6, 7, 8, 9, 10, 11, 12, 13, 14], [5, 6, 7, 8, 9, 10, 11, 12, 13, 14, 15], [1, 2, 3, 4, 5, 6, 7, 8, 9, 10, 11, 12, 13, 14, 15, 16], [0, 1, 2, 3, 4, 5, 6, 7, 8, 9, 10, 11, 12, 13, 14, 15, 16, 17], [0, 1, 2, 3, 4, 5, 6, 7, 8, 9, 10, 11, 12, 13, 14, 15, 16, 17, 18], [0, 1, 2, 3, 4, 5, 6, 7, 8, 9, 10, 11, 12, 13, 14, 15, 16, 17, 18, 19]]) .skip
def x76_13 : XCode := .seq (.region x76_10) x76_12
def x76_14 : List XOper := [oq_ 67 (mv_ 9)]
def x76_15 : List XOper := [oq_ 68 (mv_ 7),
 oq_ 69 (.lenS (t_ 68)),
 oq_ 70 (.mv (ci_ 0))]
def x76_16 : List XOper := [oq_ 71 (.bin .lss (t_ 70) (t_ 69))]
def x76_17 : XCode := .cnd (t_ 71) .skip (.exit 0)
def x76_18 : List XOper := [oq_ 72 (mv_ 70),
 oq_ 10 (mv_ 72)]
def x76_19 : List XOper := [oq_ 73 (mv_ 7),
 oq_ 74 (mv_ 10),
 oq_ 75 (mv_ 0),
 oq_ 76 (.nilck (t_ 75)),
 oq_ 77 (.faddr 0 (t_ 76)),
 oq_ 78 (.load .one 1 (t_ 77)),
 oq_ 79 (.faddr 3 (t_ 3)),
 oq_ 80 (.load (.int .i64) 1 (t_ 79)),
 oq_ 81 (.nilck (t_ 78)),
 oq_ 82 (.faddr 1 (t_ 81)),
 oq_ 83 (.iaddrA true 32 1 (t_ 82) (t_ 80)),
 oq_ 84 (.load (.int .u64) 1 (t_ 83)),
 oq_ 85 (mv_ 10),
 oq_ 86 (.bin .mul (ci_ 8) (t_ 85)),
 oq_ 87 (.bin .shr (t_ 84) (t_ 86)),
 oq_ 88 (.conv .u8 (t_ 87)),
 oq_ 89 (.iaddrS 1 (t_ 73) (t_ 74)),
 on_ (.store 1 (t_ 89) (t_ 88))]
def x76_20 : XCode := .seq (.region x76_18) (.draw x76_19 [[], [], [], [2], [2, 3], [2, 3, 4], [], [6], [2, 3, 4, 5], [2, 3, 4, 5, 8], [2, 3, 4, 5, 6, 7, 8, 9], [2, 3, 4, 5, 6, 7, 8, 9, 10], [], [12], [2, 3, 4, 5, 6, 7, 8, 9, 10, 11, 12, 13], [2, 3, 4, 5, 6, 7, 8, 9, 10, 11, 12, 13, 14], [0, 1, 2, 3, 4, 5, 6, 7, 8, 9, 10, 11, 12, 13, 14, 15], [0, 1, 2, 3, 4, 5, 6, 7, 8, 9, 10, 11, 12, 13, 14, 15, 16]])
def x76_21 : XCode := .block 1 x76_20
def x76_22 : List XOper := [oq_ 90 (.bin .add (t_ 70) (ci_ 1)),
 oq_ 70 (mv_ 90)]
def x76_23 : XCode := .seq x76_21 (.region x76_22)
def x76_24 : XCode := .seq x76_17 x76_23
def x76_25 : XCode := .seq (.region x76_16) x76_24
def x76_26 : XCode := .loop x76_25
def x76_27 : XCode := .block 0 x76_26
def x76_28 : XCode := .seq (.region x76_15) x76_27
def x76_29 : List XOper := [oq_ 4 (.mv (.const (.bool true)))]
def x76_30 : XCode := .seq (.region x76_29) .ret
def x76_31 : XCode := .seq x76_28 x76_30
def x76_32 : XCode := .cnd (t_ 67) x76_31 .skip
def x76_33 : XCode := .seq (.region x76_14) x76_32
def x76_34 : List XOper := [oq_ 92 (mv_ 0),
 oq_ 93 (.nilck (t_ 92)),
 oq_ 94 (.faddr 0 (t_ 93)),
 oq_ 95 (.load .one 1 (t_ 94)),
 oq_ 96 (.faddr 1 (t_ 3)),
 oq_ 97 (.load (.int .i64) 1 (t_ 96)),
 oq_ 98 (mv_ 7),
 oc_ 99 84 [(t_ 98)],
 oq_ 100 (mv_ 5),
 oq_ 101 (.bin .mul (ci_ 8) (t_ 100)),
 oq_ 102 (.faddr 0 (t_ 3)),
 oq_ 103 (.load (.int .i64) 1 (t_ 102)),
 oq_ 104 (.bin .neq (t_ 103) (ci_ 39)),
 oc_ 105 36 [(t_ 99), (t_ 101), (t_ 104)],
 oq_ 91 (mv_ 105),
 oq_ 106 (.ext (t_ 91) 0),
 oq_ 107 (.ext (t_ 91) 1),
 oq_ 108 (.nilck (t_ 95)),
 oq_ 109 (.faddr 1 (t_ 108)),
 oq_ 110 (.iaddrA true 32 1 (t_ 109) (t_ 97)),
 on_ (.store 1 (t_ 110) (t_ 106))]
def x76_35 : List XOper := [oq_ 4 (.mv (.const (.bool true)))]
def x76_36 : XCode := .seq (.region x76_35) .ret
def x76_37 : XCode := .seq (.draw x76_34 [[], [0], [0, 1], [0, 1, 2], [], [4], [], [6], [], [8], [], [10], [10, 11], [6, 7, 8, 9, 10, 11, 12], [6, 7, 8, 9, 10, 11, 12, 13], [6, 7, 8, 9, 10, 11, 12, 13, 14], [6, 7, 8, 9, 10, 11, 12, 13, 14], [0, 1, 2, 3], [0, 1, 2, 3, 17], [0, 1, 2, 3, 4, 5, 6, 7, 8, 9, 10, 11, 12, 13, 14, 15, 17, 18], [0, 1, 2, 3, 4, 5, 6, 7, 8, 9, 10, 11, 12, 13, 14, 15, 17, 18, 19]]) x76_36
def x76_38 : XCode := .seq x76_33 x76_37
def x76_39 : XCode := .seq x76_13 x76_38
def x76_40 : XCode := .seq (.region x76_9) x76_39
def x76_41 : XCode := .seq x76_8 x76_40
def x76_42 : XCode := .seq (.region x76_3) x76_41
def x76_43 : XCode := .seq (.draw x76_2 [[], [0], [0, 1], [0, 1, 2], [], [4], [0, 1, 2, 3], [0, 1, 2, 3, 6], [0, 1, 2, 3, 4, 5, 6, 7], [0, 1, 2, 3, 4, 5, 6, 7, 8], [], [10], [10, 11], [0, 1, 2, 3, 4, 5, 6, 7, 8, 9, 10, 11, 12], [0, 1, 2, 3, 4, 5, 6, 7, 8, 9, 10, 11, 12, 13]]) x76_42
def x76_44 : XCode := .seq (.region x76_1) x76_43
def x76_45 : XCode := .seq (.region x76_0) x76_44
def x76 : XCode := x76_45
theorem fx76 : fnx Try.prog 76 = some (111, [(4, none)], x76) := by kernel_rfl
def x77_0 : List XOper := [oq_ 6 (.mv (.const (.bool false)))]
def x77_1 : List XOper := [oq_ 7 (mv_ 0)]
def x77_2 : List XOper := [oq_ 9 (.bin .eql (t_ 7) (ci_ 45)),
 oq_ 8 (mv_ 9)]
def x77_3 : List XOper := [oq_ 10 (.bin .eql (t_ 7) (ci_ 46)),
 oq_ 8 (mv_ 10)]
def x77_4 : XCode := .cnd (t_ 8) .skip (.region x77_3)
def x77_5 : XCode := .seq (.region x77_2) x77_4
def x77_6 : List XOper := [oq_ 11 (mv_ 1),
 oq_ 12 (mv_ 2),
 oq_ 13 (.bin .eql (t_ 11) (t_ 12)),
 oq_ 14 (mv_ 0),
 oq_ 15 (.bin .eql (t_ 14) (ci_ 45)),
 oq_ 16 (.eqb false (t_ 13) (t_ 15)),
 oq_ 6 (mv_ 16)]
def x77_7 : XCode := .seq (.region x77_6) .ret
def x77_8 : List XOper := [oq_ 18 (.bin .eql (t_ 7) (ci_ 47)),
 oq_ 17 (mv_ 18)]
def x77_9 : List XOper := [oq_ 19 (.bin .eql (t_ 7) (ci_ 48)),
 oq_ 17 (mv_ 19)]
def x77_10 : XCode := .cnd (t_ 17) .skip (.region x77_9)
def x77_11 : XCode := .seq (.region x77_8) x77_10
def x77_12 : List XOper := [oq_ 20 (mv_ 1),
 oq_ 21 (.conv .i64 (t_ 20)),
 oq_ 22 (mv_ 2),
 oq_ 23 (.conv .i64 (t_ 22)),
 oq_ 24 (.bin .lss (t_ 21) (t_ 23)),
 oq_ 25 (mv_ 0),
 oq_ 26 (.bin .eql (t_ 25) (ci_ 47)),
 oq_ 27 (.eqb false (t_ 24) (t_ 26)),
 oq_ 6 (mv_ 27)]
def x77_13 : XCode := .seq (.region x77_12) .ret
def x77_14 : XCode := .cnd (t_ 17) x77_13 .skip
def x77_15 : XCode := .seq x77_11 x77_14
def x77_16 : XCode := .cnd (t_ 8) x77_7 x77_15
def x77_17 : XCode := .seq x77_5 x77_16
def x77_18 : XCode := .block 0 x77_17
def x77_19 : XCode := .seq (.region x77_1) x77_18
def x77_20 : List XOper := [oq_ 28 (mv_ 1),
 oq_ 29 (mv_ 2),
 oq_ 30 (.bin .lss (t_ 28) (t_ 29)),
 oq_ 31 (mv_ 0),
 oq_ 32 (.bin .eql (t_ 31) (ci_ 49)),
 oq_ 33 (.eqb false (t_ 30) (t_ 32)),
 oq_ 6 (mv_ 33)]
def x77_21 : XCode := .seq (.region x77_20) .ret
def x77_22 : XCode := .seq x77_19 x77_21
def x77_23 : XCode := .seq (.region x77_0) x77_22
def x77 : XCode := x77_23
theorem fx77 : fnx Try.prog 77 = some (34, [(6, none)], x77) := by kernel_rfl
def x78_0 : List XOper := [oq_ 2 (.mv (.const (.bool false)))]
def x78_1 : List XOper := [oq_ 3 (mv_ 0),
 oq_ 4 (.nilck (t_ 3)),
 oq_ 5 (.faddr 0 (t_ 4)),
 oq_ 6 (.load .one 1 (t_ 5)),
 oq_ 7 (.nilck (t_ 6)),
 oq_ 8 (.faddr 1 (t_ 7)),
 oq_ 9 (.iaddrA false 32 1 (t_ 8) (ci_ 17)),
 oq_ 10 (.load (.int .u64) 1 (t_ 9))]
def x78_2 : List XOper := [oq_ 12 (.bin .eql (t_ 10) (.const (.int .u64 1))),
 oq_ 11 (mv_ 12)]
def x78_3 : List XOper := [oq_ 13 (mv_ 0),
 oq_ 14 (mv_ 0),
 oq_ 15 (.nilck (t_ 14)),
 oq_ 16 (.faddr 2 (t_ 15)),
 oq_ 17 (.load .one 1 (t_ 16)),
 oq_ 18 (mv_ 0),
 oq_ 19 (.nilck (t_ 18)),
 oq_ 20 (.faddr 0 (t_ 19)),
 oq_ 21 (.load .one 1 (t_ 20)),
 oq_ 22 (.nilck (t_ 21)),
 oq_ 23 (.faddr 1 (t_ 22)),
 oq_ 24 (.iaddrA false 32 1 (t_ 23) (ci_ 10)),
 oq_ 25 (.load (.int .u64) 1 (t_ 24)),
 oq_ 26 (.conv .u8 (t_ 25)),
 oq_ 27 (.mkslice [(.int .u8 0)] 1 [(0, (t_ 26))]),
 oq_ 28 (.app 1 1 (t_ 17) (t_ 27)),
 oq_ 29 (.nilck (t_ 13)),
 oq_ 30 (.faddr 2 (t_ 29)),
 on_ (.store 1 (t_ 30) (t_ 28))]
def x78_4 : List XOper := [oq_ 32 (.bin .eql (t_ 10) (.const (.int .u64 2))),
 oq_ 31 (mv_ 32)]
def x78_5 : List XOper := [oq_ 33 (mv_ 0),
 oq_ 34 (.nilck (t_ 33)),
 oq_ 35 (.faddr 0 (t_ 34)),
 oq_ 36 (.load .one 1 (t_ 35)),
 oq_ 37 (.nilck (t_ 36)),
 oq_ 38 (.faddr 1 (t_ 37)),
 oq_ 39 (.iaddrA false 32 1 (t_ 38) (ci_ 10)),
 on_ (.store 1 (t_ 39) (.const (.int .u64 18446744073709551615)))]
def x78_6 : List XOper := [oq_ 40 (mv_ 0),
 oq_ 41 (.nilck (t_ 40)),
 oq_ 42 (.faddr 1 (t_ 41)),
 oq_ 43 (.load .one 1 (t_ 42)),
 oq_ 44 (.lenS (t_ 43)),
 oq_ 45 (.bin .gtr (t_ 44) (ci_ 0))]
def x78_7 : List XOper := [oq_ 46 (mv_ 0),
 oq_ 47 (.nilck (t_ 46)),
 oq_ 48 (.faddr 0 (t_ 47)),
 oq_ 49 (.load .one 1 (t_ 48)),
 oq_ 50 (mv_ 0),
 oq_ 51 (mv_ 0),
 oq_ 52 (.nilck (t_ 51)),
 oq_ 53 (.faddr 1 (t_ 52)),
 oq_ 54 (.load .one 1 (t_ 53)),
 oq_ 55 (.iaddrS 1 (t_ 54) (ci_ 0)),
 oq_ 56 (.load (.int .u8) 1 (t_ 55)),
 oq_ 57 (.conv .u64 (t_ 56)),
 oq_ 58 (mv_ 0),
 oq_ 59 (.nilck (t_ 58)),
 oq_ 60 (.faddr 1 (t_ 59)),
 oq_ 61 (.load .one 1 (t_ 60)),
 oq_ 62 (.slS 1 (t_ 61) (some (ci_ 1)) none),
 oq_ 63 (.nilck (t_ 49)),
 oq_ 64 (.faddr 1 (t_ 63)),
 oq_ 65 (.iaddrA false 32 1 (t_ 64) (ci_ 10)),
 on_ (.store 1 (t_ 65) (t_ 57)),
 oq_ 66 (.nilck (t_ 50)),
 oq_ 67 (.faddr 1 (t_ 66)),
 on_ (.store 1 (t_ 67) (t_ 62))]
def x78_8 : XCode := .cnd (t_ 45) (.draw x78_7 [[], [0], [0, 1], [0, 1, 2], [], [], [5], [5, 6], [5, 6, 7], [5, 6, 7, 8], [5, 6, 7, 8, 9], [5, 6, 7, 8, 9, 10], [], [12], [12, 13], [12, 13, 14], [12, 13, 14, 15], [0, 1, 2, 3], [0, 1, 2, 3, 17], [0, 1, 2, 3, 5, 6, 7, 8, 9, 10, 11, 12, 13, 14, 15, 17, 18], [0, 1, 2, 3, 5, 6, 7, 8, 9, 10, 11, 12, 13, 14, 15, 17, 18, 19], [0, 1, 2, 3, 4, 5, 6, 7, 8, 9, 10, 11, 12, 13, 14, 15, 16, 17, 18, 19, 20], [0, 1, 2, 3, 4, 5, 6, 7, 8, 9, 10, 11, 12, 13, 14, 15, 16, 17, 18, 19, 20, 21], [0, 1, 2, 3, 4, 5, 6, 7, 8, 9, 10, 11, 12, 13, 14, 15, 16, 17, 18, 19, 20, 21, 22]]) .skip
def x78_9 : XCode := .seq (.region x78_6) x78_8
def x78_10 : XCode := .seq (.region x78_5) x78_9
def x78_11 : List XOper := [oq_ 69 (.bin .eql (t_ 10) (.const (.int .u64 3))),
 oq_ 68 (mv_ 69)]
def x78_12 : List XOper := [oq_ 70 (mv_ 0),
 oq_ 71 (.nilck (t_ 70)),
 oq_ 72 (.faddr 0 (t_ 71)),
 oq_ 73 (.load .one 1 (t_ 72)),
 oq_ 74 (mv_ 0),
 oq_ 75 (.nilck (t_ 74)),
 oq_ 76 (.faddr 0 (t_ 75)),
 oq_ 77 (.load .one 1 (t_ 76)),
 oq_ 78 (mv_ 0),
 oq_ 79 (.nilck (t_ 78)),
 oq_ 80 (.faddr 0 (t_ 79)),
 oq_ 81 (.load .one 1 (t_ 80)),
 oq_ 82 (.nilck (t_ 81)),
 oq_ 83 (.faddr 1 (t_ 82)),
 oq_ 84 (.iaddrA false 32 1 (t_ 83) (ci_ 10)),
 oq_ 85 (.load (.int .u64) 1 (t_ 84)),
 oq_ 86 (.conv .u8 (t_ 85)),
 oq_ 87 (.nilck (t_ 73)),
 oq_ 88 (.faddr 34 (t_ 87)),
 on_ (.store 1 (t_ 88) (ci_ 1)),
 oq_ 89 (.nilck (t_ 77)),
 oq_ 90 (.faddr 35 (t_ 89)),
 on_ (.store 1 (t_ 90) (t_ 86))]
def x78_13 : List XOper := [oq_ 92 (.bin .eql (t_ 10) (.const (.int .u64 4))),
 oq_ 91 (mv_ 92)]
def x78_14 : List XOper := [oq_ 93 (mv_ 0),
 oq_ 94 (.nilck (t_ 93)),
 oq_ 95 (.faddr 0 (t_ 94)),
 oq_ 96 (.load .one 1 (t_ 95)),
 oq_ 97 (.nilck (t_ 96)),
 oq_ 98 (.faddr 34 (t_ 97)),
 on_ (.store 1 (t_ 98) (ci_ 2))]
def x78_15 : List XOper := [oq_ 100 (.bin .eql (t_ 10) (.const (.int .u64 5))),
 oq_ 99 (mv_ 100)]
def x78_16 : List XOper := [oq_ 101 (mv_ 0),
 oq_ 102 (.nilck (t_ 101)),
 oq_ 103 (.faddr 0 (t_ 102)),
 oq_ 104 (.load .one 1 (t_ 103)),
 oq_ 105 (.nilck (t_ 104)),
 oq_ 106 (.faddr 34 (t_ 105)),
 on_ (.store 1 (t_ 106) (ci_ 3))]
def x78_17 : List XOper := [oq_ 2 (.mv (.const (.bool false)))]
def x78_18 : XCode := .seq (.region x78_17) .ret
def x78_19 : XCode := .cnd (t_ 99) (.region x78_16) x78_18
def x78_20 : XCode := .seq (.region x78_15) x78_19
def x78_21 : XCode := .cnd (t_ 91) (.region x78_14) x78_20
def x78_22 : XCode := .seq (.region x78_13) x78_21
def x78_23 : XCode := .cnd (t_ 68) (.draw x78_12 [[], [0], [0, 1], [0, 1, 2], [], [4], [4, 5], [4, 5, 6], [], [8], [8, 9], [8, 9, 10], [8, 9, 10, 11], [8, 9, 10, 11, 12], [8, 9, 10, 11, 12, 13], [8, 9, 10, 11, 12, 13, 14], [8, 9, 10, 11, 12, 13, 14, 15], [0, 1, 2, 3, 4, 5, 6, 7, 8, 9, 10, 11, 12, 13, 14, 15], [0, 1, 2, 3, 4, 5, 6, 7, 8, 9, 10, 11, 12, 13, 14, 15, 17], [0, 1, 2, 3, 4, 5, 6, 7, 8, 9, 10, 11, 12, 13, 14, 15, 17, 18], [0, 1, 2, 3, 4, 5, 6, 7, 8, 9, 10, 11, 12, 13, 14, 15, 16, 17, 18, 19], [0, 1, 2, 3, 4, 5, 6, 7, 8, 9, 10, 11, 12, 13, 14, 15, 16, 17, 18, 19, 20], [0, 1, 2, 3, 4, 5, 6, 7, 8, 9, 10, 11, 12, 13, 14, 15, 16, 17, 18, 19, 20, 21]]) x78_22
def x78_24 : XCode := .seq (.region x78_11) x78_23
def x78_25 : XCode := .cnd (t_ 31) x78_10 x78_24
def x78_26 : XCode := .seq (.region x78_4) x78_25
def x78_27 : XCode := .cnd (t_ 11) (.draw x78_3 [[], [], [1], [1, 2], [1, 2, 3], [], [5], [5, 6], [5, 6, 7], [5, 6, 7, 8], [5, 6, 7, 8, 9], [5, 6, 7, 8, 9, 10], [5, 6, 7, 8, 9, 10, 11], [5, 6, 7, 8, 9, 10, 11, 12], [5, 6, 7, 8, 9, 10, 11, 12, 13], [1, 2, 3, 4, 5, 6, 7, 8, 9, 10, 11, 12, 13, 14], [0, 1, 2, 3, 4, 5, 6, 7, 8, 9, 10, 11, 12, 13, 14, 15], [0, 1, 2, 3, 4, 5, 6, 7, 8, 9, 10, 11, 12, 13, 14, 15, 16], [0, 1, 2, 3, 4, 5, 6, 7, 8, 9, 10, 11, 12, 13, 14, 15, 16, 17]]) x78_26
def x78_28 : XCode := .seq (.region x78_2) x78_27
def x78_29 : XCode := .block 0 x78_28
def x78_30 : XCode := .seq (.region x78_1) x78_29
def x78_31 : List XOper := [oq_ 2 (.mv (.const (.bool true)))]
def x78_32 : XCode := .seq (.region x78_31) .ret
def x78_33 : XCode := .seq x78_30 x78_32
def x78_34 : XCode := .seq (.region x78_0) x78_33
def x78 : XCode := x78_34
theorem fx78 : fnx Try.prog 78 = some (107, [(2, none)], x78) := by kernel_rfl
def x83_0 : List XOper := [oq_ 6 (.mv (.const (.slice none 0 0))),
 oq_ 7 (.mv (.const (.bool false)))]
def x83_1 : List XOper := [oq_ 8 (mv_ 1),
 oq_ 9 (mv_ 2),
 oq_ 10 (.conv .u64 (t_ 9)),
 oq_ 11 (.bin .rem (t_ 8) (t_ 10)),
 oq_ 12 (.bin .neq (t_ 11) (.const (.int .u64 0))),
 oq_ 13 (mv_ 12),
 og_ 14 13 false (mv_ 1),
 og_ 15 13 false (mv_ 0),
 og_ 16 13 false (.nilck (t_ 15)),
 og_ 17 13 false (.faddr 0 (t_ 16)),
 og_ 18 13 false (.load .one 1 (t_ 17)),
 og_ 19 13 false (.lenS (t_ 18)),
 og_ 20 13 false (.conv .u64 (t_ 19)),
 og_ 21 13 false (.bin .gtr (t_ 14) (t_ 20)),
 ⟨(some 22), .pick (t_ 13) (.const (.bool true)) (t_ 21), none⟩,
 oq_ 23 (mv_ 22),
 og_ 24 23 false (mv_ 0),
 og_ 25 23 false (.nilck (t_ 24)),
 og_ 26 23 false (.faddr 0 (t_ 25)),
 og_ 27 23 false (.load .one 1 (t_ 26)),
 og_ 28 23 false (.lenS (t_ 27)),
 og_ 29 23 false (.conv .u64 (t_ 28)),
 og_ 30 23 false (mv_ 1),
 og_ 31 23 false (.bin .sub (t_ 29) (t_ 30)),
 og_ 32 23 false (mv_ 2),
 og_ 33 23 false (.conv .u64 (t_ 32)),
 og_ 34 23 false (.bin .lss (t_ 31) (t_ 33)),
 ⟨(some 35), .pick (t_ 23) (.const (.bool true)) (t_ 34), none⟩]
def x83_2 : List XOper := [oq_ 6 (.mv (.const (.slice none 0 0))),
 oq_ 7 (.mv (.const (.bool false)))]
def x83_3 : XCode := .seq (.region x83_2) .ret
def x83_4 : XCode := .cnd (t_ 35) x83_3 .skip
def x83_5 : XCode := .seq (.region x83_1) x83_4
def x83_6 : List XOper := [oq_ 36 (mv_ 0),
 oq_ 37 (.nilck (t_ 36)),
 oq_ 38 (.faddr 0 (t_ 37)),
 oq_ 39 (.load .one 1 (t_ 38)),
 oq_ 40 (mv_ 1),
 oq_ 41 (mv_ 1),
 oq_ 42 (mv_ 2),
 oq_ 43 (.conv .u64 (t_ 42)),
 oq_ 44 (.bin .add (t_ 41) (t_ 43)),
 oq_ 45 (.slS 1 (t_ 39) (some (t_ 40)) (some (t_ 44))),
 oq_ 6 (mv_ 45),
 oq_ 7 (.mv (.const (.bool true)))]
def x83_7 : XCode := .seq (.region x83_6) .ret
def x83_8 : XCode := .seq x83_5 x83_7
def x83_9 : XCode := .seq (.region x83_0) x83_8
def x83 : XCode := x83_9
theorem fx83 : fnx Try.prog 83 = some (46, [(6, none), (7, none)], x83) := by kernel_rfl
def x84_0 : List XOper := [oq_ 2 (.mv (.const (.int .u64 0)))]
def x84_1 : List XOper := [oq_ 3 (.mv (.const (.int .u64 0)))]
def x84_2 : List XOper := [oq_ 6 (mv_ 0),
 oq_ 7 (.lenS (t_ 6)),
 oq_ 8 (.mv (ci_ 0))]
def x84_3 : List XOper := [oq_ 9 (.bin .lss (t_ 8) (t_ 7))]
def x84_4 : XCode := .cnd (t_ 9) .skip (.exit 0)
def x84_5 : List XOper := [oq_ 10 (mv_ 8),
 oq_ 11 (.iaddrS 1 (t_ 6) (t_ 8)),
 oq_ 12 (.load (.int .u8) 1 (t_ 11)),
 oq_ 4 (mv_ 10),
 oq_ 5 (mv_ 12)]
def x84_6 : List XOper := [oq_ 13 (mv_ 3),
 oq_ 14 (mv_ 5),
 oq_ 15 (.conv .u64 (t_ 14)),
 oq_ 16 (mv_ 4),
 oq_ 17 (.bin .mul (ci_ 8) (t_ 16)),
 oq_ 18 (.bin .shl (t_ 15) (t_ 17)),
 oq_ 19 (.bin .or (t_ 13) (t_ 18)),
 oq_ 3 (mv_ 19)]
def x84_7 : XCode := .seq (.region x84_5) (.region x84_6)
def x84_8 : XCode := .block 1 x84_7
def x84_9 : List XOper := [oq_ 20 (.bin .add (t_ 8) (ci_ 1)),
 oq_ 8 (mv_ 20)]
def x84_10 : XCode := .seq x84_8 (.region x84_9)
def x84_11 : XCode := .seq x84_4 x84_10
def x84_12 : XCode := .seq (.region x84_3) x84_11
def x84_13 : XCode := .loop x84_12
def x84_14 : XCode := .block 0 x84_13
def x84_15 : XCode := .seq (.region x84_2) x84_14
def x84_16 : List XOper := [oq_ 21 (mv_ 3),
 oq_ 2 (mv_ 21)]
def x84_17 : XCode := .seq (.region x84_16) .ret
def x84_18 : XCode := .seq x84_15 x84_17
def x84_19 : XCode := .seq (.region x84_1) x84_18
def x84_20 : XCode := .seq (.region x84_0) x84_19
def x84 : XCode := x84_20
theorem fx84 : fnx Try.prog 84 = some (22, [(2, none)], x84) := by kernel_rfl
def x85_0 : List XOper := [oq_ 6 (.mv (.const (.int .u64 0))),
 oq_ 7 (.mv (.const (.bool false)))]
def x85_1 : List XOper := [oq_ 12 (mv_ 1),
 oq_ 13 (.conv .i64 (t_ 12)),
 oq_ 14 (mv_ 2),
 oq_ 15 (.conv .i64 (t_ 14)),
 oq_ 8 (mv_ 13),
 oq_ 9 (mv_ 15)]
def x85_2 : List XOper := [oq_ 17 (mv_ 1),
 oq_ 18 (mv_ 2),
 oc_ 19 98 [(t_ 17), (t_ 18)],
 oq_ 16 (mv_ 19),
 oq_ 20 (.ext (t_ 16) 0),
 oq_ 21 (.ext (t_ 16) 1),
 oq_ 10 (mv_ 20),
 oq_ 11 (mv_ 21)]
def x85_3 : List XOper := [oq_ 22 (mv_ 0)]
def x85_4 : List XOper := [oq_ 24 (.bin .eql (t_ 22) (ci_ 1)),
 oq_ 23 (mv_ 24)]
def x85_5 : List XOper := [oq_ 25 (mv_ 1),
 oq_ 26 (mv_ 2),
 oq_ 27 (.bin .add (t_ 25) (t_ 26)),
 oq_ 6 (mv_ 27),
 oq_ 7 (.mv (.const (.bool true)))]
def x85_6 : XCode := .seq (.region x85_5) .ret
def x85_7 : List XOper := [oq_ 29 (.bin .eql (t_ 22) (ci_ 2)),
 oq_ 28 (mv_ 29)]
def x85_8 : List XOper := [oq_ 30 (mv_ 1),
 oq_ 31 (mv_ 2),
 oq_ 32 (.bin .sub (t_ 30) (t_ 31)),
 oq_ 6 (mv_ 32),
 oq_ 7 (.mv (.const (.bool true)))]
def x85_9 : XCode := .seq (.region x85_8) .ret
def x85_10 : List XOper := [oq_ 34 (.bin .eql (t_ 22) (ci_ 3)),
 oq_ 33 (mv_ 34)]
def x85_11 : List XOper := [oq_ 35 (mv_ 1),
 oq_ 36 (mv_ 2),
 oq_ 37 (.bin .and (t_ 36) (.const (.int .u64 63))),
 oq_ 38 (.bin .shl (t_ 35) (t_ 37)),
 oq_ 6 (mv_ 38),
 oq_ 7 (.mv (.const (.bool true)))]
def x85_12 : XCode := .seq (.region x85_11) .ret
def x85_13 : List XOper := [oq_ 40 (.bin .eql (t_ 22) (ci_ 4)),
 oq_ 39 (mv_ 40)]
def x85_14 : List XOper := [oq_ 41 (mv_ 8),
 oq_ 42 (mv_ 9),
 oq_ 43 (.bin .lss (t_ 41) (t_ 42)),
 oc_ 44 99 [(t_ 43)],
 oq_ 6 (mv_ 44),
 oq_ 7 (.mv (.const (.bool true)))]
def x85_15 : XCode := .seq (.region x85_14) .ret
def x85_16 : List XOper := [oq_ 46 (.bin .eql (t_ 22) (ci_ 5)),
 oq_ 45 (mv_ 46)]
def x85_17 : List XOper := [oq_ 47 (mv_ 1),
 oq_ 48 (mv_ 2),
 oq_ 49 (.bin .lss (t_ 47) (t_ 48)),
 oc_ 50 99 [(t_ 49)],
 oq_ 6 (mv_ 50),
 oq_ 7 (.mv (.const (.bool true)))]
def x85_18 : XCode := .seq (.region x85_17) .ret
def x85_19 : List XOper := [oq_ 52 (.bin .eql (t_ 22) (ci_ 6)),
 oq_ 51 (mv_ 52)]
def x85_20 : List XOper := [oq_ 53 (mv_ 1),
 oq_ 54 (mv_ 2),
 oq_ 55 (.bin .xor (t_ 53) (t_ 54)),
 oq_ 6 (mv_ 55),
 oq_ 7 (.mv (.const (.bool true)))]
def x85_21 : XCode := .seq (.region x85_20) .ret
def x85_22 : List XOper := [oq_ 57 (.bin .eql (t_ 22) (ci_ 7)),
 oq_ 56 (mv_ 57)]
def x85_23 : List XOper := [oq_ 58 (mv_ 1),
 oq_ 59 (mv_ 2),
 oq_ 60 (.bin .and (t_ 59) (.const (.int .u64 63))),
 oq_ 61 (.bin .shr (t_ 58) (t_ 60)),
 oq_ 6 (mv_ 61),
 oq_ 7 (.mv (.const (.bool true)))]
def x85_24 : XCode := .seq (.region x85_23) .ret
def x85_25 : List XOper := [oq_ 63 (.bin .eql (t_ 22) (ci_ 8)),
 oq_ 62 (mv_ 63)]
def x85_26 : List XOper := [oq_ 64 (mv_ 8),
 oq_ 65 (mv_ 2),
 oq_ 66 (.bin .and (t_ 65) (.const (.int .u64 63))),
 oq_ 67 (.bin .shr (t_ 64) (t_ 66)),
 oq_ 68 (.conv .u64 (t_ 67)),
 oq_ 6 (mv_ 68),
 oq_ 7 (.mv (.const (.bool true)))]
def x85_27 : XCode := .seq (.region x85_26) .ret
def x85_28 : List XOper := [oq_ 70 (.bin .eql (t_ 22) (ci_ 9)),
 oq_ 69 (mv_ 70)]
def x85_29 : List XOper := [oq_ 71 (mv_ 1),
 oq_ 72 (mv_ 2),
 oq_ 73 (.bin .or (t_ 71) (t_ 72)),
 oq_ 6 (mv_ 73),
 oq_ 7 (.mv (.const (.bool true)))]
def x85_30 : XCode := .seq (.region x85_29) .ret
def x85_31 : List XOper := [oq_ 75 (.bin .eql (t_ 22) (ci_ 10)),
 oq_ 74 (mv_ 75)]
def x85_32 : List XOper := [oq_ 76 (mv_ 1),
 oq_ 77 (mv_ 2),
 oq_ 78 (.bin .and (t_ 76) (t_ 77)),
 oq_ 6 (mv_ 78),
 oq_ 7 (.mv (.const (.bool true)))]
def x85_33 : XCode := .seq (.region x85_32) .ret
def x85_34 : List XOper := [oq_ 80 (.bin .eql (t_ 22) (ci_ 11)),
 oq_ 79 (mv_ 80)]
def x85_35 : List XOper := [oq_ 81 (mv_ 11),
 oq_ 6 (mv_ 81),
 oq_ 7 (.mv (.const (.bool true)))]
def x85_36 : XCode := .seq (.region x85_35) .ret
def x85_37 : List XOper := [oq_ 83 (.bin .eql (t_ 22) (ci_ 13)),
 oq_ 82 (mv_ 83)]
def x85_38 : List XOper := [oq_ 84 (mv_ 10),
 oq_ 6 (mv_ 84),
 oq_ 7 (.mv (.const (.bool true)))]
def x85_39 : XCode := .seq (.region x85_38) .ret
def x85_40 : List XOper := [oq_ 86 (.bin .eql (t_ 22) (ci_ 12)),
 oq_ 85 (mv_ 86)]
def x85_41 : List XOper := [oq_ 87 (mv_ 10),
 oq_ 88 (mv_ 2),
 oq_ 89 (mv_ 8),
 oq_ 90 (.bin .lss (t_ 89) (ci_ 0)),
 oc_ 91 99 [(t_ 90)],
 oq_ 92 (.bin .mul (t_ 88) (t_ 91)),
 oq_ 93 (.bin .sub (t_ 87) (t_ 92)),
 oq_ 94 (mv_ 1),
 oq_ 95 (mv_ 9),
 oq_ 96 (.bin .lss (t_ 95) (ci_ 0)),
 oc_ 97 99 [(t_ 96)],
 oq_ 98 (.bin .mul (t_ 94) (t_ 97)),
 oq_ 99 (.bin .sub (t_ 93) (t_ 98)),
 oq_ 6 (mv_ 99),
 oq_ 7 (.mv (.const (.bool true)))]
def x85_42 : XCode := .seq (.region x85_41) .ret
def x85_43 : XCode := .cnd (t_ 85) x85_42 .skip
def x85_44 : XCode := .seq (.region x85_40) x85_43
def x85_45 : XCode := .cnd (t_ 82) x85_39 x85_44
def x85_46 : XCode := .seq (.region x85_37) x85_45
def x85_47 : XCode := .cnd (t_ 79) x85_36 x85_46
def x85_48 : XCode := .seq (.region x85_34) x85_47
def x85_49 : XCode := .cnd (t_ 74) x85_33 x85_48
def x85_50 : XCode := .seq (.region x85_31) x85_49
def x85_51 : XCode := .cnd (t_ 69) x85_30 x85_50
def x85_52 : XCode := .seq (.region x85_28) x85_51
def x85_53 : XCode := .cnd (t_ 62) x85_27 x85_52
def x85_54 : XCode := .seq (.region x85_25) x85_53
def x85_55 : XCode := .cnd (t_ 56) x85_24 x85_54
def x85_56 : XCode := .seq (.region x85_22) x85_55
def x85_57 : XCode := .cnd (t_ 51) x85_21 x85_56
def x85_58 : XCode := .seq (.region x85_19) x85_57
def x85_59 : XCode := .cnd (t_ 45) x85_18 x85_58
def x85_60 : XCode := .seq (.region x85_16) x85_59
def x85_61 : XCode := .cnd (t_ 39) x85_15 x85_60
def x85_62 : XCode := .seq (.region x85_13) x85_61
def x85_63 : XCode := .cnd (t_ 33) x85_12 x85_62
def x85_64 : XCode := .seq (.region x85_10) x85_63
def x85_65 : XCode := .cnd (t_ 28) x85_9 x85_64
def x85_66 : XCode := .seq (.region x85_7) x85_65
def x85_67 : XCode := .cnd (t_ 23) x85_6 x85_66
def x85_68 : XCode := .seq (.region x85_4) x85_67
def x85_69 : XCode := .block 0 x85_68
def x85_70 : XCode := .seq (.region x85_3) x85_69
def x85_71 : List XOper := [oq_ 6 (.mv (.const (.int .u64 0))),
 oq_ 7 (.mv (.const (.bool false)))]
def x85_72 : XCode := .seq (.region x85_71) .ret
def x85_73 : XCode := .seq x85_70 x85_72
def x85_74 : XCode := .seq (.region x85_2) x85_73
def x85_75 : XCode := .seq (.region x85_1) x85_74
def x85_76 : XCode := .seq (.region x85_0) x85_75
def x85 : XCode := x85_76
theorem fx85 : fnx Try.prog 85 = some (100, [(6, none), (7, none)], x85) := by kernel_rfl
def x86_0 : List XOper := [oq_ 6 (.mv (.const (.int .u64 0))),
 oq_ 7 (.mv (.const (.bool false)))]
def x86_1 : List XOper := [oq_ 10 (mv_ 1),
 oq_ 11 (.conv .i64 (t_ 10)),
 oq_ 12 (mv_ 2),
 oq_ 13 (.conv .i64 (t_ 12)),
 oq_ 8 (mv_ 11),
 oq_ 9 (mv_ 13)]
def x86_2 : List XOper := [oq_ 14 (mv_ 0)]
def x86_3 : List XOper := [oq_ 16 (.bin .eql (t_ 14) (ci_ 14)),
 oq_ 15 (mv_ 16)]
def x86_4 : List XOper := [oq_ 17 (.bin .eql (t_ 14) (ci_ 15)),
 oq_ 15 (mv_ 17)]
def x86_5 : XCode := .cnd (t_ 15) .skip (.region x86_4)
def x86_6 : XCode := .seq (.region x86_3) x86_5
def x86_7 : List XOper := [oq_ 18 (mv_ 2),
 oq_ 19 (.bin .eql (t_ 18) (.const (.int .u64 0)))]
def x86_8 : List XOper := [oq_ 6 (.mv (.const (.int .u64 18446744073709551615))),
 oq_ 7 (.mv (.const (.bool true)))]
def x86_9 : XCode := .seq (.region x86_8) .ret
def x86_10 : XCode := .cnd (t_ 19) x86_9 .skip
def x86_11 : XCode := .seq (.region x86_7) x86_10
def x86_12 : List XOper := [oq_ 20 (mv_ 0),
 oq_ 21 (.bin .eql (t_ 20) (ci_ 15))]
def x86_13 : List XOper := [oq_ 22 (mv_ 1),
 oq_ 23 (mv_ 2),
 oq_ 24 (.bin .quo (t_ 22) (t_ 23)),
 oq_ 6 (mv_ 24),
 oq_ 7 (.mv (.const (.bool true)))]
def x86_14 : XCode := .seq (.region x86_13) .ret
def x86_15 : XCode := .cnd (t_ 21) x86_14 .skip
def x86_16 : XCode := .seq (.region x86_12) x86_15
def x86_17 : List XOper := [oq_ 25 (mv_ 8),
 oq_ 26 (mv_ 9),
 oq_ 27 (.bin .quo (t_ 25) (t_ 26)),
 oq_ 28 (.conv .u64 (t_ 27)),
 oq_ 6 (mv_ 28),
 oq_ 7 (.mv (.const (.bool true)))]
def x86_18 : XCode := .seq (.region x86_17) .ret
def x86_19 : XCode := .seq x86_16 x86_18
def x86_20 : XCode := .seq x86_11 x86_19
def x86_21 : List XOper := [oq_ 30 (.bin .eql (t_ 14) (ci_ 16)),
 oq_ 29 (mv_ 30)]
def x86_22 : List XOper := [oq_ 31 (.bin .eql (t_ 14) (ci_ 17)),
 oq_ 29 (mv_ 31)]
def x86_23 : XCode := .cnd (t_ 29) .skip (.region x86_22)
def x86_24 : XCode := .seq (.region x86_21) x86_23
def x86_25 : List XOper := [oq_ 32 (mv_ 2),
 oq_ 33 (.bin .eql (t_ 32) (.const (.int .u64 0)))]
def x86_26 : List XOper := [oq_ 34 (mv_ 1),
 oq_ 6 (mv_ 34),
 oq_ 7 (.mv (.const (.bool true)))]
def x86_27 : XCode := .seq (.region x86_26) .ret
def x86_28 : XCode := .cnd (t_ 33) x86_27 .skip
def x86_29 : XCode := .seq (.region x86_25) x86_28
def x86_30 : List XOper := [oq_ 35 (mv_ 0),
 oq_ 36 (.bin .eql (t_ 35) (ci_ 17))]
def x86_31 : List XOper := [oq_ 37 (mv_ 1),
 oq_ 38 (mv_ 2),
 oq_ 39 (.bin .rem (t_ 37) (t_ 38)),
 oq_ 6 (mv_ 39),
 oq_ 7 (.mv (.const (.bool true)))]
def x86_32 : XCode := .seq (.region x86_31) .ret
def x86_33 : XCode := .cnd (t_ 36) x86_32 .skip
def x86_34 : XCode := .seq (.region x86_30) x86_33
def x86_35 : List XOper := [oq_ 40 (mv_ 8),
 oq_ 41 (mv_ 9),
 oq_ 42 (.bin .rem (t_ 40) (t_ 41)),
 oq_ 43 (.conv .u64 (t_ 42)),
 oq_ 6 (mv_ 43),
 oq_ 7 (.mv (.const (.bool true)))]
def x86_36 : XCode := .seq (.region x86_35) .ret
def x86_37 : XCode := .seq x86_34 x86_36
def x86_38 : XCode := .seq x86_29 x86_37
def x86_39 : XCode := .cnd (t_ 29) x86_38 .skip
def x86_40 : XCode := .seq x86_24 x86_39
def x86_41 : XCode := .cnd (t_ 15) x86_20 x86_40
def x86_42 : XCode := .seq x86_6 x86_41
def x86_43 : XCode := .block 0 x86_42
def x86_44 : XCode := .seq (.region x86_2) x86_43
def x86_45 : List XOper := [oq_ 6 (.mv (.const (.int .u64 0))),
 oq_ 7 (.mv (.const (.bool false)))]
def x86_46 : XCode := .seq (.region x86_45) .ret
def x86_47 : XCode := .seq x86_44 x86_46
def x86_48 : XCode := .seq (.region x86_1) x86_47
def x86_49 : XCode := .seq (.region x86_0) x86_48
def x86 : XCode := x86_49
theorem fx86 : fnx Try.prog 86 = some (44, [(6, none), (7, none)], x86) := by kernel_rfl
def x87_0 : List XOper := [oq_ 2 (.mv (ci_ 0)),
 oq_ 3 (.mv (.const (.bool false))),
 oq_ 4 (.mv (.const (.bool false)))]
def x87_1 : List XOper := [oq_ 5 (mv_ 0)]
def x87_2 : List XOper := [oq_ 7 (.bin .eql (t_ 5) (ci_ 18)),
 oq_ 6 (mv_ 7)]
def x87_3 : List XOper := [oq_ 2 (.mv (ci_ 1)),
 oq_ 3 (.mv (.const (.bool true))),
 oq_ 4 (.mv (.const (.bool true)))]
def x87_4 : XCode := .seq (.region x87_3) .ret
def x87_5 : List XOper := [oq_ 9 (.bin .eql (t_ 5) (ci_ 19)),
 oq_ 8 (mv_ 9)]
def x87_6 : List XOper := [oq_ 2 (.mv (ci_ 2)),
 oq_ 3 (.mv (.const (.bool true))),
 oq_ 4 (.mv (.const (.bool true)))]
def x87_7 : XCode := .seq (.region x87_6) .ret
def x87_8 : List XOper := [oq_ 11 (.bin .eql (t_ 5) (ci_ 20)),
 oq_ 10 (mv_ 11)]
def x87_9 : List XOper := [oq_ 2 (.mv (ci_ 3)),
 oq_ 3 (.mv (.const (.bool true))),
 oq_ 4 (.mv (.const (.bool true)))]
def x87_10 : XCode := .seq (.region x87_9) .ret
def x87_11 : List XOper := [oq_ 13 (.bin .eql (t_ 5) (ci_ 21)),
 oq_ 12 (mv_ 13)]
def x87_12 : List XOper := [oq_ 2 (.mv (ci_ 7)),
 oq_ 3 (.mv (.const (.bool false))),
 oq_ 4 (.mv (.const (.bool true)))]
def x87_13 : XCode := .seq (.region x87_12) .ret
def x87_14 : List XOper := [oq_ 15 (.bin .eql (t_ 5) (ci_ 22)),
 oq_ 14 (mv_ 15)]
def x87_15 : List XOper := [oq_ 2 (.mv (ci_ 8)),
 oq_ 3 (.mv (.const (.bool true))),
 oq_ 4 (.mv (.const (.bool true)))]
def x87_16 : XCode := .seq (.region x87_15) .ret
def x87_17 : List XOper := [oq_ 17 (.bin .eql (t_ 5) (ci_ 23)),
 oq_ 16 (mv_ 17)]
def x87_18 : List XOper := [oq_ 2 (.mv (ci_ 11)),
 oq_ 3 (.mv (.const (.bool true))),
 oq_ 4 (.mv (.const (.bool true)))]
def x87_19 : XCode := .seq (.region x87_18) .ret
def x87_20 : List XOper := [oq_ 19 (.bin .eql (t_ 5) (ci_ 24)),
 oq_ 18 (mv_ 19)]
def x87_21 : List XOper := [oq_ 2 (.mv (ci_ 14)),
 oq_ 3 (.mv (.const (.bool true))),
 oq_ 4 (.mv (.const (.bool true)))]
def x87_22 : XCode := .seq (.region x87_21) .ret
def x87_23 : List XOper := [oq_ 21 (.bin .eql (t_ 5) (ci_ 25)),
 oq_ 20 (mv_ 21)]
def x87_24 : List XOper := [oq_ 2 (.mv (ci_ 15)),
 oq_ 3 (.mv (.const (.bool false))),
 oq_ 4 (.mv (.const (.bool true)))]
def x87_25 : XCode := .seq (.region x87_24) .ret
def x87_26 : List XOper := [oq_ 23 (.bin .eql (t_ 5) (ci_ 26)),
 oq_ 22 (mv_ 23)]
def x87_27 : List XOper := [oq_ 2 (.mv (ci_ 16)),
 oq_ 3 (.mv (.const (.bool true))),
 oq_ 4 (.mv (.const (.bool true)))]
def x87_28 : XCode := .seq (.region x87_27) .ret
def x87_29 : List XOper := [oq_ 25 (.bin .eql (t_ 5) (ci_ 27)),
 oq_ 24 (mv_ 25)]
def x87_30 : List XOper := [oq_ 2 (.mv (ci_ 17)),
 oq_ 3 (.mv (.const (.bool false))),
 oq_ 4 (.mv (.const (.bool true)))]
def x87_31 : XCode := .seq (.region x87_30) .ret
def x87_32 : XCode := .cnd (t_ 24) x87_31 .skip
def x87_33 : XCode := .seq (.region x87_29) x87_32
def x87_34 : XCode := .cnd (t_ 22) x87_28 x87_33
def x87_35 : XCode := .seq (.region x87_26) x87_34
def x87_36 : XCode := .cnd (t_ 20) x87_25 x87_35
def x87_37 : XCode := .seq (.region x87_23) x87_36
def x87_38 : XCode := .cnd (t_ 18) x87_22 x87_37
def x87_39 : XCode := .seq (.region x87_20) x87_38
def x87_40 : XCode := .cnd (t_ 16) x87_19 x87_39
def x87_41 : XCode := .seq (.region x87_17) x87_40
def x87_42 : XCode := .cnd (t_ 14) x87_16 x87_41
def x87_43 : XCode := .seq (.region x87_14) x87_42
def x87_44 : XCode := .cnd (t_ 12) x87_13 x87_43
def x87_45 : XCode := .seq (.region x87_11) x87_44
def x87_46 : XCode := .cnd (t_ 10) x87_10 x87_45
def x87_47 : XCode := .seq (.region x87_8) x87_46
def x87_48 : XCode := .cnd (t_ 8) x87_7 x87_47
def x87_49 : XCode := .seq (.region x87_5) x87_48
def x87_50 : XCode := .cnd (t_ 6) x87_4 x87_49
def x87_51 : XCode := .seq (.region x87_2) x87_50
def x87_52 : XCode := .block 0 x87_51
def x87_53 : XCode := .seq (.region x87_1) x87_52
def x87_54 : List XOper := [oq_ 2 (.mv (ci_ 0)),
 oq_ 3 (.mv (.const (.bool false))),
 oq_ 4 (.mv (.const (.bool false)))]
def x87_55 : XCode := .seq (.region x87_54) .ret
def x87_56 : XCode := .seq x87_53 x87_55
def x87_57 : XCode := .seq (.region x87_0) x87_56
def x87 : XCode := x87_57
theorem fx87 : fnx Try.prog 87 = some (26, [(2, none), (3, none), (4, none)], x87) := by kernel_rfl
def x88_0 : List XOper := [oq_ 2 (.mv (ci_ 0))]
def x88_1 : List XOper := [oq_ 3 (mv_ 0)]
def x88_2 : List XOper := [oq_ 5 (.bin .eql (t_ 3) (ci_ 40)),
 oq_ 4 (mv_ 5)]
def x88_3 : List XOper := [oq_ 6 (.bin .eql (t_ 3) (ci_ 43)),
 oq_ 4 (mv_ 6)]
def x88_4 : XCode := .cnd (t_ 4) .skip (.region x88_3)
def x88_5 : XCode := .seq (.region x88_2) x88_4
def x88_6 : List XOper := [oq_ 2 (.mv (ci_ 4))]
def x88_7 : XCode := .seq (.region x88_6) .ret
def x88_8 : List XOper := [oq_ 8 (.bin .eql (t_ 3) (ci_ 41)),
 oq_ 7 (mv_ 8)]
def x88_9 : List XOper := [oq_ 9 (.bin .eql (t_ 3) (ci_ 44)),
 oq_ 7 (mv_ 9)]
def x88_10 : XCode := .cnd (t_ 7) .skip (.region x88_9)
def x88_11 : XCode := .seq (.region x88_8) x88_10
def x88_12 : List XOper := [oq_ 2 (.mv (ci_ 8))]
def x88_13 : XCode := .seq (.region x88_12) .ret
def x88_14 : XCode := .cnd (t_ 7) x88_13 .skip
def x88_15 : XCode := .seq x88_11 x88_14
def x88_16 : XCode := .cnd (t_ 4) x88_7 x88_15
def x88_17 : XCode := .seq x88_5 x88_16
def x88_18 : XCode := .block 0 x88_17
def x88_19 : XCode := .seq (.region x88_1) x88_18
def x88_20 : List XOper := [oq_ 2 (.mv (ci_ 1))]
def x88_21 : XCode := .seq (.region x88_20) .ret
def x88_22 : XCode := .seq x88_19 x88_21
def x88_23 : XCode := .seq (.region x88_0) x88_22
def x88 : XCode := x88_23
theorem fx88 : fnx Try.prog 88 = some (10, [(2, none)], x88) := by kernel_rfl
def x98_0 : List XOper := [oq_ 4 (.mv (.const (.int .u64 0))),
 oq_ 5 (.mv (.const (.int .u64 0)))]
def x98_1 : List XOper := [oq_ 14 (mv_ 0),
 oq_ 15 (.bin .and (t_ 14) (.const (.int .u64 4294967295))),
 oq_ 6 (mv_ 15)]
def x98_2 : List XOper := [oq_ 16 (mv_ 0),
 oq_ 17 (.bin .shr (t_ 16) (.const (.int .u64 32))),
 oq_ 7 (mv_ 17)]
def x98_3 : List XOper := [oq_ 18 (mv_ 1),
 oq_ 19 (.bin .and (t_ 18) (.const (.int .u64 4294967295))),
 oq_ 8 (mv_ 19)]
def x98_4 : List XOper := [oq_ 20 (mv_ 1),
 oq_ 21 (.bin .shr (t_ 20) (.const (.int .u64 32))),
 oq_ 9 (mv_ 21)]
def x98_5 : List XOper := [oq_ 22 (mv_ 6),
 oq_ 23 (mv_ 8),
 oq_ 24 (.bin .mul (t_ 22) (t_ 23)),
 oq_ 10 (mv_ 24)]
def x98_6 : List XOper := [oq_ 25 (mv_ 7),
 oq_ 26 (mv_ 8),
 oq_ 27 (.bin .mul (t_ 25) (t_ 26)),
 oq_ 28 (mv_ 10),
 oq_ 29 (.bin .shr (t_ 28) (.const (.int .u64 32))),
 oq_ 30 (.bin .add (t_ 27) (t_ 29)),
 oq_ 11 (mv_ 30)]
def x98_7 : List XOper := [oq_ 31 (mv_ 11),
 oq_ 32 (.bin .and (t_ 31) (.const (.int .u64 4294967295))),
 oq_ 12 (mv_ 32)]
def x98_8 : List XOper := [oq_ 33 (mv_ 11),
 oq_ 34 (.bin .shr (t_ 33) (.const (.int .u64 32))),
 oq_ 13 (mv_ 34)]
def x98_9 : List XOper := [oq_ 35 (mv_ 12),
 oq_ 36 (mv_ 6),
 oq_ 37 (mv_ 9),
 oq_ 38 (.bin .mul (t_ 36) (t_ 37)),
 oq_ 39 (.bin .add (t_ 35) (t_ 38)),
 oq_ 12 (mv_ 39)]
def x98_10 : List XOper := [oq_ 40 (mv_ 7),
 oq_ 41 (mv_ 9),
 oq_ 42 (.bin .mul (t_ 40) (t_ 41)),
 oq_ 43 (mv_ 13),
 oq_ 44 (.bin .add (t_ 42) (t_ 43)),
 oq_ 45 (mv_ 12),
 oq_ 46 (.bin .shr (t_ 45) (.const (.int .u64 32))),
 oq_ 47 (.bin .add (t_ 44) (t_ 46)),
 oq_ 4 (mv_ 47)]
def x98_11 : List XOper := [oq_ 48 (mv_ 0),
 oq_ 49 (mv_ 1),
 oq_ 50 (.bin .mul (t_ 48) (t_ 49)),
 oq_ 5 (mv_ 50)]
def x98_12 : XCode := .seq (.region x98_11) .ret
def x98_13 : XCode := .seq (.region x98_10) x98_12
def x98_14 : XCode := .seq (.region x98_9) x98_13
def x98_15 : XCode := .seq (.region x98_8) x98_14
def x98_16 : XCode := .seq (.region x98_7) x98_15
def x98_17 : XCode := .seq (.region x98_6) x98_16
def x98_18 : XCode := .seq (.region x98_5) x98_17
def x98_19 : XCode := .seq (.region x98_4) x98_18
def x98_20 : XCode := .seq (.region x98_3) x98_19
def x98_21 : XCode := .seq (.region x98_2) x98_20
def x98_22 : XCode := .seq (.region x98_1) x98_21
def x98_23 : XCode := .seq (.region x98_0) x98_22
def x98 : XCode := x98_23
theorem fx98 : fnx Try.prog 98 = some (51, [(4, none), (5, none)], x98) := by kernel_rfl
def x99_0 : List XOper := [oq_ 2 (.mv (.const (.int .u64 0)))]
def x99_1 : List XOper := [oq_ 3 (mv_ 0)]
def x99_2 : List XOper := [oq_ 2 (.mv (.const (.int .u64 1)))]
def x99_3 : XCode := .seq (.region x99_2) .ret
def x99_4 : XCode := .cnd (t_ 3) x99_3 .skip
def x99_5 : XCode := .seq (.region x99_1) x99_4
def x99_6 : List XOper := [oq_ 2 (.mv (.const (.int .u64 0)))]
def x99_7 : XCode := .seq (.region x99_6) .ret
def x99_8 : XCode := .seq x99_5 x99_7
def x99_9 : XCode := .seq (.region x99_0) x99_8
def x99 : XCode := x99_9
theorem fx99 : fnx Try.prog 99 = some (4, [(2, none)], x99) := by kernel_rfl
end Go.X
