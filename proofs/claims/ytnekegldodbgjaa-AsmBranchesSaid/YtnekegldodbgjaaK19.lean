import Derived.Test.YtnekegldodbgjaaK15
import Derived.Test.YtnekegldodbgjaaProg
import Derived.KernelRfl
set_option linter.all false
namespace Go.X
open Go Go.Proofs



instance (n : Nat) : OfNat Operand n := ⟨.tmp n⟩
abbrev L_ := List XOper
abbrev C_ := XCode
abbrev r_ (l : L_) : C_ := .region l
def zs_ (k : IntKind) (n : Nat) : List Value := List.replicate n (.int k 0)
def ck_ (k : IntKind) (n : Int) : Operand := .const (.int k n)
def bt_ : Operand := .const (.bool true)
def bf_ : Operand := .const (.bool false)
def mi_ (n : Int) : XOp := .mv (.const (.int .i64 n))
def se_ : Value := .string ⟨#[]⟩
def ci_ (n : Int) : Operand := .const (.int .i64 n)
def m_ (n : Nat) : XOp := .mv (.tmp n)
def q_ (d : Nat) (o : XOp) : XOper := ⟨some d, .op o, none⟩
def og_ (d c : Nat) (b : Bool) (o : XOp) : XOper := ⟨some d, .op o, some (c, b)⟩
def oc_ (d f : Nat) (l : List Operand) : XOper := ⟨some d, .callF f l, none⟩
def on_ (o : XOp) : XOper := ⟨none, .op o, none⟩
def x15_0 : L_ := [q_ 4 (.box 1),
 q_ 6 (.mv bf_)]
def x15_1 : L_ := [q_ 25 (.iaddrA false 2 1 4 (ci_ 0)),
 q_ 26 (.load (.int .u64) 1 25),
 q_ 27 (.iaddrA false 2 1 4 (ci_ 1)),
 q_ 28 (.load (.int .u64) 1 27),
 q_ 7 (m_ 26),
 q_ 8 (m_ 28)]
def x15_2 : L_ := [oc_ 29 16 [],
 q_ 30 (.un .not 29)]
def x15_3 : L_ := [q_ 6 (.mv bf_)]
def x15_7 : L_ := [q_ 31 (m_ 0),
 q_ 32 (.conv .i64 31),
 q_ 33 (.bin .rem 32 (ci_ 6)),
 q_ 34 (.bin .add 33 (ci_ 45)),
 q_ 9 (m_ 34)]
def x15_8 : L_ := [q_ 35 (m_ 0),
 q_ 36 (.bin .geq 35 (ck_ .u8 128)),
 q_ 10 (m_ 36)]
def x15_9 : L_ := [q_ 37 (m_ 2),
 q_ 38 (.conv .u64 37),
 q_ 39 (.bin .rem 38 (ck_ .u64 1500)),
 q_ 40 (.conv .i64 39),
 q_ 2 (m_ 40)]
def x15_10 : L_ := [q_ 11 (.mv (.const (.slice none 0 0)))]
def x15_11 : L_ := [q_ 12 (mi_ 0)]
def x15_12 : L_ := [q_ 41 (m_ 12),
 q_ 42 (m_ 2),
 q_ 43 (.bin .lss 41 42)]
def x15_15 : L_ := [q_ 46 (m_ 11),
 q_ 47 (.build (zs_ .i64 5) [(0, 1, (ci_ 28)), (1, 1, (ci_ 7)), (2, 1, (ci_ 7)), (4, 1, (ci_ 1))]),
 q_ 48 (.build [se_, (.int .i64 0), (.int .i64 0), (.int .i64 0), (.int .i64 0), (.int .i64 0), se_, (.int .i64 0)] [(1, 5, 47)]),
 q_ 49 (.mkslice [se_, (.int .i64 0), (.int .i64 0), (.int .i64 0), (.int .i64 0), (.int .i64 0), se_, (.int .i64 0)] 1 [(0, 48)]),
 q_ 50 (.app 8 80 46 49),
 q_ 11 (m_ 50)]
def x15_17 : L_ := [q_ 44 (m_ 12),
 q_ 45 (.bin .add 44 (ci_ 1)),
 q_ 12 (m_ 45)]
def x15_19 : C_ := .seq (.seq (r_ x15_12) (.cnd 43 .skip (.exit 0))) (.seq (.block 1 (r_ x15_15)) (r_ x15_17))
def x15_23 : L_ := [q_ 51 (m_ 9),
 q_ 52 (.build (zs_ .i64 5) [(0, 1, 51), (2, 1, (ci_ 5)), (3, 1, (ci_ 6))]),
 q_ 53 (.build [se_, (.int .i64 0), (.int .i64 0), (.int .i64 0), (.int .i64 0), (.int .i64 0), se_, (.int .i64 0)] [(1, 5, 52), (6, 1, (.const (.string ⟨#[101, 110, 100]⟩)))]),
 q_ 13 (.new [se_, (.int .i64 0), (.int .i64 0), (.int .i64 0), (.int .i64 0), (.int .i64 0), se_, (.int .i64 0)]),
 on_ (.store 8 13 53)]
def x15_24 : L_ := [q_ 54 (.build (zs_ .i64 5) [(0, 1, (ci_ 28)), (1, 1, (ci_ 17)), (4, 1, (ci_ 3))]),
 q_ 55 (.build [se_, (.int .i64 0), (.int .i64 0), (.int .i64 0), (.int .i64 0), (.int .i64 0), se_, (.int .i64 0)] [(1, 5, 54)]),
 q_ 56 (.build (zs_ .i64 5) [(0, 1, (ci_ 55))]),
 q_ 57 (.build [se_, (.int .i64 0), (.int .i64 0), (.int .i64 0), (.int .i64 0), (.int .i64 0), se_, (.int .i64 0)] [(1, 5, 56)]),
 q_ 58 (.mkslice [se_, (.int .i64 0), (.int .i64 0), (.int .i64 0), (.int .i64 0), (.int .i64 0), se_, (.int .i64 0)] 2 [(0, 55), (1, 57)]),
 q_ 14 (m_ 58)]
def x15_25 : L_ := [q_ 59 (.build [se_, (.int .i64 0), (.int .i64 0), (.int .i64 0), (.int .i64 0), (.int .i64 0), se_, (.int .i64 0)] [(0, 1, (.const (.string ⟨#[101, 110, 100]⟩)))]),
 q_ 60 (.build (zs_ .i64 5) [(0, 1, (ci_ 28)), (1, 1, (ci_ 10)), (4, 1, (ci_ 1))]),
 q_ 61 (.build [se_, (.int .i64 0), (.int .i64 0), (.int .i64 0), (.int .i64 0), (.int .i64 0), se_, (.int .i64 0)] [(1, 5, 60)]),
 q_ 62 (.mkslice [se_, (.int .i64 0), (.int .i64 0), (.int .i64 0), (.int .i64 0), (.int .i64 0), se_, (.int .i64 0)] 2 [(0, 59), (1, 61)]),
 q_ 63 (m_ 14),
 q_ 64 (.app 8 80 62 63),
 q_ 15 (m_ 64)]
def x15_26 : L_ := [q_ 16 (.mv (.const (.slice none 0 0)))]
def x15_27 : L_ := [q_ 65 (m_ 10)]
def x15_28 : L_ := [q_ 66 (m_ 16),
 q_ 67 (.build (zs_ .i64 5) [(0, 1, (ci_ 53))]),
 q_ 68 (.build [se_, (.int .i64 0), (.int .i64 0), (.int .i64 0), (.int .i64 0), (.int .i64 0), se_, (.int .i64 0)] [(1, 5, 67), (6, 1, (.const (.string ⟨#[98, 101, 103, 105, 110]⟩)))]),
 q_ 69 (.mkslice [se_, (.int .i64 0), (.int .i64 0), (.int .i64 0), (.int .i64 0), (.int .i64 0), se_, (.int .i64 0)] 1 [(0, 68)]),
 q_ 70 (.app 8 80 66 69),
 q_ 16 (m_ 70)]
def x15_29 : L_ := [q_ 71 (m_ 16),
 q_ 72 (m_ 15),
 q_ 73 (.app 8 80 71 72),
 q_ 74 (m_ 11),
 q_ 75 (.app 8 80 73 74),
 q_ 76 (.build [se_, (.int .i64 0), (.int .i64 0), (.int .i64 0), (.int .i64 0), (.int .i64 0), se_, (.int .i64 0)] [(0, 1, (.const (.string ⟨#[98, 101, 103, 105, 110]⟩)))]),
 q_ 77 (.load .agg 8 13),
 q_ 78 (.mkslice [se_, (.int .i64 0), (.int .i64 0), (.int .i64 0), (.int .i64 0), (.int .i64 0), se_, (.int .i64 0)] 2 [(0, 76), (1, 77)]),
 q_ 79 (.app 8 80 75 78),
 q_ 16 (m_ 79)]
def x15_30 : L_ := [q_ 80 (m_ 16),
 q_ 81 (m_ 14),
 q_ 82 (.app 8 80 80 81),
 q_ 16 (m_ 82)]
def x15_33 : L_ := [q_ 83 (.load .agg 8 13),
 q_ 84 (.mkslice [se_, (.int .i64 0), (.int .i64 0), (.int .i64 0), (.int .i64 0), (.int .i64 0), se_, (.int .i64 0)] 1 [(0, 83)]),
 q_ 85 (m_ 11),
 q_ 86 (.app 8 80 84 85),
 q_ 87 (m_ 14),
 q_ 88 (.app 8 80 86 87),
 q_ 89 (m_ 15),
 q_ 90 (.app 8 80 88 89),
 q_ 16 (m_ 90)]
def x15_35 : C_ := .seq (r_ x15_27) (.cnd 65 (.seq (r_ x15_28) (.seq (.draw x15_29 [[], [], [0, 1], [], [0, 1, 2, 3], [], [], [5, 6], [0, 1, 2, 3, 4, 5, 6, 7], [0, 1, 2, 3, 4, 5, 6, 7, 8]]) (r_ x15_30))) (r_ x15_33))
def x15_36 : L_ := [q_ 92 (m_ 16),
 oc_ 93 17 [92, (ci_ 0)],
 q_ 91 (m_ 93),
 q_ 94 (.ext 91 0),
 q_ 95 (.ext 91 1),
 q_ 96 (.ext 91 2),
 q_ 17 (m_ 94),
 q_ 18 (m_ 95),
 q_ 19 (m_ 96)]
def x15_37 : L_ := [q_ 97 (m_ 19),
 q_ 98 (.bin .neq 97 (ci_ 0))]
def x15_38 : L_ := [q_ 6 (.mv bf_)]
def x15_41 : C_ := .seq (r_ x15_37) (.cnd 98 (.seq (r_ x15_38) .ret) .skip)
def x15_42 : L_ := [q_ 100 (m_ 17),
 oc_ 101 38 [100],
 q_ 102 (m_ 17),
 q_ 103 (.lenS 102),
 q_ 104 (.bin .mul (ci_ 4) 103),
 q_ 105 (.bin .add 104 (ci_ 64)),
 oc_ 106 22 [101, 105],
 q_ 99 (m_ 106),
 q_ 107 (.ext 99 0),
 q_ 108 (.ext 99 1),
 q_ 20 (m_ 107),
 q_ 21 (m_ 108)]
def x15_43 : L_ := [q_ 109 (m_ 21),
 q_ 110 (.bin .neq 109 (ci_ 0)),
 q_ 111 (m_ 110),
 og_ 112 111 false (m_ 20),
 og_ 113 111 false (.eqnil 0 false 112 (.const (.pointer none))),
 ⟨(some 114), .pick 111 bt_ 113, none⟩]
def x15_44 : L_ := [q_ 6 (.mv bf_)]
def x15_47 : C_ := .seq (r_ x15_43) (.cnd 114 (.seq (r_ x15_44) .ret) .skip)
def x15_48 : L_ := [q_ 115 (m_ 20),
 q_ 116 (m_ 7),
 oc_ 117 26 [115, (ci_ 5), 116]]
def x15_49 : L_ := [q_ 118 (m_ 20),
 q_ 119 (m_ 8),
 oc_ 120 26 [118, (ci_ 6), 119]]
def x15_50 : L_ := [q_ 121 (m_ 20),
 oc_ 122 24 [121, (.const (.slice none 0 0)), (ci_ 4000)],
 q_ 22 (.new [(.int .i64 0), (.int .u8 0), (.int .i64 0), (.slice none 0 0), (.int .i64 0), (.int .i64 0)]),
 on_ (.store 6 22 122)]
def x15_51 : L_ := [q_ 123 (m_ 7),
 q_ 124 (m_ 8),
 q_ 125 (.bin .eql 123 124),
 q_ 126 (m_ 7),
 q_ 127 (m_ 8),
 q_ 128 (.bin .neq 126 127),
 q_ 129 (m_ 7),
 q_ 130 (.conv .i64 129),
 q_ 131 (m_ 8),
 q_ 132 (.conv .i64 131),
 q_ 133 (.bin .lss 130 132),
 q_ 134 (m_ 7),
 q_ 135 (.conv .i64 134),
 q_ 136 (m_ 8),
 q_ 137 (.conv .i64 136),
 q_ 138 (.bin .geq 135 137),
 q_ 139 (m_ 7),
 q_ 140 (m_ 8),
 q_ 141 (.bin .lss 139 140),
 q_ 142 (m_ 7),
 q_ 143 (m_ 8),
 q_ 144 (.bin .geq 142 143),
 q_ 145 (.build [(.bool false), (.bool false), (.bool false), (.bool false), (.bool false), (.bool false)] [(0, 1, 125), (1, 1, 128), (2, 1, 133), (3, 1, 138), (4, 1, 141), (5, 1, 144)]),
 q_ 146 (m_ 9),
 q_ 147 (.bin .sub 146 (ci_ 45)),
 q_ 148 (.idxA 6 1 .bool 145 147),
 q_ 23 (m_ 148)]
def x15_52 : L_ := [q_ 149 (m_ 2),
 q_ 150 (.conv .u64 149),
 q_ 24 (m_ 150)]
def x15_53 : L_ := [q_ 151 (m_ 23),
 q_ 152 (m_ 151),
 og_ 153 152 false (m_ 10),
 ⟨(some 154), .pick 152 bt_ 153, none⟩]
def x15_54 : L_ := [q_ 24 (.mv (ck_ .u64 0))]
def x15_56 : C_ := .seq (r_ x15_53) (.cnd 154 (r_ x15_54) .skip)
def x15_57 : L_ := [q_ 155 (.faddr 0 22),
 q_ 156 (.load (.int .i64) 1 155),
 q_ 157 (.bin .eql 156 (ci_ 1)),
 q_ 158 (m_ 157),
 og_ 159 158 true (.faddr 1 22),
 og_ 160 158 true (.load (.int .u8) 1 159),
 og_ 161 158 true (.bin .eql 160 (ck_ .u8 1)),
 og_ 162 158 true (m_ 23),
 og_ 163 158 true (.eqb false 161 162),
 ⟨(some 164), .pick 158 163 bf_, none⟩,
 q_ 165 (m_ 164),
 og_ 166 165 true (m_ 20),
 ⟨(some 167), .callF 25 [166, (ci_ 7)], (some (165, true))⟩,
 og_ 168 165 true (m_ 24),
 og_ 169 165 true (.bin .eql 167 168),
 ⟨(some 170), .pick 165 169 bf_, none⟩,
 q_ 6 (m_ 170)]
def x15_58 : C_ := .seq (r_ x15_57) .ret
def x15_68 : C_ := .seq (r_ x15_36) (.seq x15_41 (.seq (r_ x15_42) (.seq x15_47 (.seq (r_ x15_48) (.seq (r_ x15_49) (.seq (r_ x15_50) (.seq (r_ x15_51) (.seq (r_ x15_52) (.seq x15_56 x15_58)))))))))
def x15_73 : C_ := .seq (r_ x15_23) (.seq (r_ x15_24) (.seq (r_ x15_25) (.seq (r_ x15_26) (.seq x15_35 x15_68))))
def x15_80 : C_ := .seq (.draw x15_1 [[], [0], [], [2], [0, 1], [0, 1, 2, 3, 4]]) (.seq (.seq (r_ x15_2) (.cnd 30 (.seq (r_ x15_3) .ret) .skip)) (.seq (r_ x15_7) (.seq (r_ x15_8) (.seq (r_ x15_9) (.seq (r_ x15_10) (.seq (.seq (r_ x15_11) (.block 0 (.loop x15_19))) x15_73))))))
def x15_81 : C_ := .seq (r_ x15_0) x15_80
def x15 : C_ := x15_81
theorem fx15 : fnx Try.prog 15 = some (171, [(6, none)], x15) := by kernel_rfl
def x16_0 : L_ := [q_ 0 (.mv bf_)]
def x16_1 : L_ := [q_ 5 (.build [se_, (.int .i64 0), (.int .i64 0), (.int .i64 0), (.int .i64 0), (.int .i64 0), se_, (.int .i64 0)] [(0, 1, (.const (.string ⟨#[120]⟩)))]),
 q_ 6 (.build (zs_ .i64 5) [(0, 1, (ci_ 53))]),
 q_ 7 (.build [se_, (.int .i64 0), (.int .i64 0), (.int .i64 0), (.int .i64 0), (.int .i64 0), se_, (.int .i64 0)] [(1, 5, 6), (6, 1, (.const (.string ⟨#[120]⟩)))]),
 q_ 8 (.mkslice [se_, (.int .i64 0), (.int .i64 0), (.int .i64 0), (.int .i64 0), (.int .i64 0), se_, (.int .i64 0)] 2 [(0, 5), (1, 7)]),
 oc_ 9 17 [8, (ci_ 8)],
 q_ 4 (m_ 9),
 q_ 10 (.ext 4 0),
 q_ 11 (.ext 4 1),
 q_ 12 (.ext 4 2),
 q_ 1 (m_ 10),
 q_ 2 (m_ 11),
 q_ 3 (m_ 12)]
def x16_2 : L_ := [q_ 13 (m_ 3),
 q_ 14 (.bin .eql 13 (ci_ 0)),
 q_ 15 (m_ 14),
 og_ 16 15 true (m_ 1),
 og_ 17 15 true (.lenS 16),
 og_ 18 15 true (.bin .eql 17 (ci_ 1)),
 ⟨(some 19), .pick 15 18 bf_, none⟩,
 q_ 20 (m_ 19),
 og_ 21 20 true (m_ 1),
 og_ 22 20 true (.iaddrS 1 21 (ci_ 0)),
 og_ 23 20 true (.load (.int .u32) 1 22),
 og_ 24 20 true (.bin .eql 23 (ck_ .u32 111)),
 ⟨(some 25), .pick 20 24 bf_, none⟩,
 q_ 26 (m_ 25),
 og_ 27 26 true (m_ 2),
 og_ 28 26 true (.lookup 9 3 .string (.int .i64 0) false 27 (.const (.string ⟨#[120]⟩))),
 og_ 29 26 true (.bin .eql 28 (ci_ 8)),
 ⟨(some 30), .pick 26 29 bf_, none⟩,
 q_ 0 (m_ 30)]
def x16_5 : C_ := .seq (r_ x16_0) (.seq (r_ x16_1) (.seq (r_ x16_2) .ret))
def x16 : C_ := x16_5
theorem fx16 : fnx Try.prog 16 = some (31, [(0, none)], x16) := by kernel_rfl
def x17_0 : L_ := [q_ 4 (.mv (.const (.slice none 0 0))),
 q_ 5 (.mv (.const (.map none))),
 q_ 6 (mi_ 0)]
def x17_1 : L_ := [q_ 16 (m_ 0),
 q_ 17 (m_ 0),
 q_ 18 (.lenS 17),
 q_ 19 (.mks [(.bool false)] 1 18 18),
 q_ 20 (m_ 1),
 q_ 21 (.mkmap 9 3 (.int .i64 0)),
 q_ 22 (m_ 0),
 q_ 23 (.lenS 22),
 q_ 24 (.mks [(.int .i64 0)] 8 23 23),
 q_ 25 (.build [(.slice none 0 0), (.slice none 0 0), (.int .i64 0), (.map none), (.slice none 0 0)] [(0, 1, 16), (1, 1, 19), (2, 1, 20), (3, 1, 21), (4, 1, 24)]),
 q_ 26 (.box 25),
 q_ 7 (m_ 26)]
def x17_2 : L_ := [q_ 27 (m_ 7),
 oc_ 28 39 [27],
 q_ 8 (m_ 28)]
def x17_3 : L_ := [q_ 29 (m_ 8),
 q_ 30 (.bin .neq 29 (ci_ 0))]
def x17_4 : L_ := [q_ 31 (m_ 8),
 q_ 4 (.mv (.const (.slice none 0 0))),
 q_ 5 (.mv (.const (.map none))),
 q_ 6 (m_ 31)]
def x17_9 : L_ := [q_ 32 (m_ 7),
 oc_ 33 40 [32]]
def x17_10 : L_ := [q_ 34 (m_ 7),
 oc_ 35 41 [34]]
def x17_13 : L_ := [q_ 36 (m_ 7),
 oc_ 37 40 [36]]
def x17_15 : C_ := .seq (.seq (r_ x17_10) (.cnd 35 .skip (.exit 0))) (.block 1 (r_ x17_13))
def x17_18 : L_ := [q_ 9 (.mv (.const (.slice none 0 0)))]
def x17_19 : L_ := [q_ 38 (m_ 0),
 q_ 39 (.lenS 38),
 q_ 40 (mi_ 0)]
def x17_20 : L_ := [q_ 41 (.bin .lss 40 39)]
def x17_22 : L_ := [q_ 42 (m_ 40),
 q_ 43 (.iaddrS 8 38 40),
 q_ 44 (.load .agg 8 43),
 q_ 11 (.new [se_, (.int .i64 0), (.int .i64 0), (.int .i64 0), (.int .i64 0), (.int .i64 0), se_, (.int .i64 0)]),
 q_ 10 (m_ 42),
 on_ (.store 8 11 44)]
def x17_23 : L_ := [q_ 45 (.faddr 0 11),
 q_ 46 (.load .str 1 45),
 q_ 47 (.bin .neq 46 (.const se_))]
def x17_26 : L_ := [q_ 48 (m_ 7),
 q_ 49 (m_ 10),
 oc_ 50 42 [48, 49],
 q_ 51 (.lenS 50),
 q_ 52 (mi_ 0)]
def x17_27 : L_ := [q_ 53 (.bin .lss 52 51)]
def x17_29 : L_ := [q_ 54 (.iaddrS 5 50 52),
 q_ 55 (.load .agg 5 54),
 q_ 13 (.new (zs_ .i64 5)),
 on_ (.store 5 13 55)]
def x17_30 : L_ := [q_ 57 (.load .agg 5 13),
 oc_ 58 18 [57],
 q_ 56 (m_ 58),
 q_ 59 (.ext 56 0),
 q_ 60 (.ext 56 1),
 q_ 14 (m_ 59),
 q_ 15 (m_ 60)]
def x17_31 : L_ := [q_ 61 (m_ 15),
 q_ 62 (.bin .neq 61 (ci_ 0))]
def x17_32 : L_ := [q_ 4 (.mv (.const (.slice none 0 0))),
 q_ 5 (.mv (.const (.map none))),
 q_ 6 (mi_ 16)]
def x17_36 : L_ := [q_ 63 (m_ 9),
 q_ 64 (m_ 14),
 q_ 65 (.mkslice [(.int .u32 0)] 1 [(0, 64)]),
 q_ 66 (.app 1 4 63 65),
 q_ 9 (m_ 66)]
def x17_41 : L_ := [q_ 67 (.bin .add 52 (ci_ 1)),
 q_ 52 (m_ 67)]
def x17_44 : C_ := .seq (r_ x17_27) (.seq (.cnd 53 .skip (.exit 4)) (.seq (.block 5 (.seq (r_ x17_29) (.seq (r_ x17_30) (.seq (.seq (r_ x17_31) (.cnd 62 (.seq (r_ x17_32) .ret) .skip)) (r_ x17_36))))) (r_ x17_41)))
def x17_51 : L_ := [q_ 68 (.bin .add 40 (ci_ 1)),
 q_ 40 (m_ 68)]
def x17_54 : C_ := .seq (r_ x17_20) (.seq (.cnd 41 .skip (.exit 2)) (.seq (.block 3 (.seq (r_ x17_22) (.seq (.seq (r_ x17_23) (.cnd 47 (.exit 3) .skip)) (.seq (r_ x17_26) (.block 4 (.loop x17_44)))))) (r_ x17_51)))
def x17_58 : L_ := [q_ 69 (m_ 9),
 q_ 70 (.lenS 69),
 q_ 71 (.bin .gtr 70 (ci_ 65536))]
def x17_59 : L_ := [q_ 4 (.mv (.const (.slice none 0 0))),
 q_ 5 (.mv (.const (.map none))),
 q_ 6 (mi_ 3)]
def x17_63 : L_ := [q_ 72 (m_ 9),
 q_ 73 (m_ 7),
 q_ 74 (.nilck 73),
 q_ 75 (.faddr 3 74),
 q_ 76 (.load .one 1 75),
 q_ 4 (m_ 72),
 q_ 5 (m_ 76),
 q_ 6 (mi_ 0)]
def x17_65 : C_ := .seq (.seq (r_ x17_58) (.cnd 71 (.seq (r_ x17_59) .ret) .skip)) (.seq (.draw x17_63 [[], [], [1], [1, 2], [1, 2, 3], [0], [0, 1, 2, 3, 4, 5], [0, 1, 2, 3, 4, 5, 6]]) .ret)
def x17_67 : C_ := .seq (r_ x17_18) (.seq (.seq (r_ x17_19) (.block 2 (.loop x17_54))) x17_65)
def x17_72 : C_ := .seq (r_ x17_0) (.seq (.draw x17_1 [[], [], [1], [1, 2], [], [], [], [6], [6, 7], [0, 1, 2, 3, 4, 5, 6, 7, 8], [0, 1, 2, 3, 4, 5, 6, 7, 8, 9], [0, 1, 2, 3, 4, 5, 6, 7, 8, 9, 10]]) (.seq (.seq (r_ x17_2) (.seq (r_ x17_3) (.cnd 30 (.seq (r_ x17_4) .ret) .skip))) (.seq (r_ x17_9) (.seq (.block 0 (.loop x17_15)) x17_67))))
def x17 : C_ := x17_72
theorem fx17 : fnx Try.prog 17 = some (77, [(4, none), (5, none), (6, none)], x17) := by kernel_rfl
def x18_0 : L_ := [q_ 1 (.box 0),
 q_ 2 (.mv (ck_ .u32 0)),
 q_ 3 (mi_ 0)]
def x18_1 : L_ := [oc_ 18 43 [],
 q_ 19 (.faddr 0 1),
 q_ 20 (.load (.int .i64) 1 19),
 q_ 21 (.lookup 3 104 (.int .i64) (.agg #[(.int .u8 0), (.int .u32 0), (.int .u32 0), (.int .u32 0)]) true 18 20),
 q_ 17 (m_ 21),
 q_ 22 (.ext 17 0),
 q_ 23 (.ext 17 1),
 q_ 4 (.new [(.int .u8 0), (.int .u32 0), (.int .u32 0), (.int .u32 0)]),
 on_ (.store 4 4 22),
 q_ 5 (m_ 23)]
def x18_2 : L_ := [q_ 25 (.faddr 0 4),
 q_ 26 (.load (.int .u8) 1 25),
 oc_ 27 44 [26],
 q_ 24 (m_ 27),
 q_ 28 (.ext 24 0),
 q_ 29 (.ext 24 1),
 q_ 6 (m_ 28),
 q_ 7 (m_ 29)]
def x18_3 : L_ := [q_ 30 (.faddr 1 1),
 q_ 31 (.load (.int .i64) 1 30),
 q_ 32 (.faddr 2 1),
 q_ 33 (.load (.int .i64) 1 32),
 q_ 34 (.faddr 3 1),
 q_ 35 (.load (.int .i64) 1 34),
 q_ 36 (.build (zs_ .i64 3) [(0, 1, 31), (1, 1, 33), (2, 1, 35)]),
 q_ 8 (.new (zs_ .i64 3)),
 on_ (.store 3 8 36)]
def x18_4 : L_ := [q_ 37 (.faddr 0 4),
 q_ 38 (.load (.int .u8) 1 37),
 oc_ 39 45 [38],
 q_ 40 (mi_ 0)]
def x18_5 : L_ := [q_ 41 (.bin .lss 40 (ci_ 3))]
def x18_7 : L_ := [q_ 42 (m_ 40),
 q_ 43 (.idxA 3 1 .bool 39 40),
 q_ 9 (m_ 42),
 q_ 10 (m_ 43)]
def x18_8 : L_ := [q_ 44 (m_ 5),
 q_ 45 (m_ 44),
 og_ 46 45 true (m_ 10),
 og_ 47 45 true (m_ 46),
 og_ 48 47 false (m_ 9),
 og_ 49 47 false (.iaddrA true 3 1 8 48),
 og_ 50 47 false (.load (.int .i64) 1 49),
 og_ 51 47 false (.bin .eql 50 (ci_ 0)),
 ⟨(some 52), .pick 47 bt_ 51, (some (45, true))⟩,
 ⟨(some 53), .pick 45 52 bf_, none⟩,
 q_ 5 (m_ 53)]
def x18_11 : L_ := [q_ 54 (.bin .add 40 (ci_ 1)),
 q_ 40 (m_ 54)]
def x18_18 : L_ := [q_ 55 (m_ 5),
 q_ 56 (.un .not 55),
 q_ 57 (m_ 56),
 og_ 58 57 false (m_ 6),
 og_ 59 57 false (m_ 7),
 og_ 60 57 false (.bin .gtr 58 59),
 og_ 61 57 false (m_ 60),
 og_ 62 61 true (.faddr 4 1),
 og_ 63 61 true (.load (.int .i64) 1 62),
 og_ 64 61 true (.bin .neq 63 (ci_ 0)),
 ⟨(some 65), .pick 61 64 bf_, (some (57, false))⟩,
 ⟨(some 66), .pick 57 bt_ 65, none⟩]
def x18_19 : L_ := [q_ 2 (.mv (ck_ .u32 0)),
 q_ 3 (mi_ 2)]
def x18_23 : L_ := [q_ 67 (.faddr 1 4),
 q_ 68 (.faddr 0 67),
 q_ 69 (.load (.int .u32) 1 68),
 q_ 70 (.faddr 1 4),
 q_ 71 (.faddr 1 70),
 q_ 72 (.load (.int .u32) 1 71),
 q_ 73 (.bin .shl 72 (ck_ .u64 12)),
 q_ 74 (.bin .or 69 73),
 q_ 75 (.faddr 1 4),
 q_ 76 (.faddr 2 75),
 q_ 77 (.load (.int .u32) 1 76),
 q_ 78 (.bin .shl 77 (ck_ .u64 25)),
 q_ 79 (.bin .or 74 78),
 q_ 11 (m_ 79)]
def x18_24 : L_ := [q_ 80 (.load .agg 3 8),
 q_ 81 (mi_ 0)]
def x18_25 : L_ := [q_ 82 (.bin .lss 81 (ci_ 3))]
def x18_27 : L_ := [q_ 83 (m_ 81),
 q_ 84 (.idxA 3 1 (.int .i64) 80 81),
 q_ 12 (m_ 83),
 q_ 13 (m_ 84)]
def x18_28 : L_ := [q_ 85 (m_ 13),
 q_ 86 (.bin .lss 85 (ci_ 0)),
 q_ 87 (m_ 86),
 og_ 88 87 false (m_ 13),
 og_ 89 87 false (.bin .gtr 88 (ci_ 31)),
 ⟨(some 90), .pick 87 bt_ 89, none⟩]
def x18_29 : L_ := [q_ 2 (.mv (ck_ .u32 0)),
 q_ 3 (mi_ 1)]
def x18_33 : L_ := [q_ 91 (m_ 11),
 q_ 92 (m_ 13),
 q_ 93 (.conv .u32 92),
 q_ 94 (.build (zs_ .u64 3) [(0, 1, (ck_ .u64 7)), (1, 1, (ck_ .u64 15)), (2, 1, (ck_ .u64 20))]),
 q_ 95 (m_ 12),
 q_ 96 (.idxA 3 1 (.int .u64) 94 95),
 q_ 97 (.bin .shl 93 96),
 q_ 98 (.bin .or 91 97),
 q_ 11 (m_ 98)]
def x18_37 : L_ := [q_ 99 (.bin .add 81 (ci_ 1)),
 q_ 81 (m_ 99)]
def x18_41 : C_ := .loop (.seq (r_ x18_25) (.seq (.cnd 82 .skip (.exit 2)) (.seq (.block 3 (.seq (r_ x18_27) (.seq (.seq (r_ x18_28) (.cnd 90 (.seq (r_ x18_29) .ret) .skip)) (r_ x18_33)))) (r_ x18_37))))
def x18_44 : L_ := [q_ 100 (.faddr 0 4),
 q_ 101 (.load (.int .u8) 1 100),
 q_ 102 (.bin .eql 101 (ck_ .u8 66)),
 q_ 103 (m_ 102),
 og_ 104 103 false (.faddr 0 4),
 og_ 105 103 false (.load (.int .u8) 1 104),
 og_ 106 103 false (.bin .eql 105 (ck_ .u8 74)),
 ⟨(some 107), .pick 103 bt_ 106, none⟩,
 q_ 108 (m_ 107),
 og_ 109 108 true (.faddr 4 1),
 og_ 110 108 true (.load (.int .i64) 1 109),
 og_ 111 108 true (.bin .and 110 (ci_ 1)),
 og_ 112 108 true (.bin .eql 111 (ci_ 1)),
 ⟨(some 113), .pick 108 112 bf_, none⟩,
 q_ 14 (m_ 113)]
def x18_45 : L_ := [q_ 114 (m_ 6),
 q_ 115 (m_ 7),
 q_ 116 (.bin .leq 114 115),
 q_ 117 (m_ 116),
 og_ 118 117 true (.faddr 4 1),
 og_ 119 117 true (.load (.int .i64) 1 118),
 og_ 120 117 true (m_ 6),
 og_ 121 117 true (.bin .lss 119 120),
 og_ 122 117 true (m_ 121),
 og_ 123 122 false (.faddr 4 1),
 og_ 124 122 false (.load (.int .i64) 1 123),
 og_ 125 122 false (m_ 7),
 og_ 126 122 false (.bin .gtr 124 125),
 ⟨(some 127), .pick 122 bt_ 126, (some (117, true))⟩,
 og_ 128 117 true (m_ 127),
 og_ 129 128 false (m_ 14),
 ⟨(some 130), .pick 128 bt_ 129, (some (117, true))⟩,
 ⟨(some 131), .pick 117 130 bf_, none⟩]
def x18_46 : L_ := [q_ 2 (.mv (ck_ .u32 0)),
 q_ 3 (mi_ 1)]
def x18_50 : L_ := [q_ 132 (.faddr 0 4),
 q_ 133 (.load (.int .u8) 1 132),
 oc_ 134 46 [133],
 q_ 135 (.lenS 134),
 q_ 136 (mi_ 0)]
def x18_51 : L_ := [q_ 137 (.bin .lss 136 135)]
def x18_53 : L_ := [q_ 138 (.iaddrS 3 134 136),
 q_ 139 (.load .agg 3 138),
 q_ 16 (.new (zs_ .u64 3)),
 on_ (.store 3 16 139)]
def x18_54 : L_ := [q_ 140 (m_ 11),
 q_ 141 (.faddr 4 1),
 q_ 142 (.load (.int .i64) 1 141),
 q_ 143 (.conv .u32 142),
 q_ 144 (.faddr 0 16),
 q_ 145 (.load (.int .u64) 1 144),
 q_ 146 (.bin .shr 143 145),
 q_ 147 (.faddr 1 16),
 q_ 148 (.load (.int .u64) 1 147),
 q_ 149 (.bin .shl (ck_ .u32 1) 148),
 q_ 150 (.bin .sub 149 (ck_ .u32 1)),
 q_ 151 (.bin .and 146 150),
 q_ 152 (.faddr 2 16),
 q_ 153 (.load (.int .u64) 1 152),
 q_ 154 (.bin .shl 151 153),
 q_ 155 (.bin .or 140 154),
 q_ 11 (m_ 155)]
def x18_57 : L_ := [q_ 156 (.bin .add 136 (ci_ 1)),
 q_ 136 (m_ 156)]
def x18_64 : L_ := [q_ 157 (m_ 11),
 q_ 2 (m_ 157),
 q_ 3 (mi_ 0)]
def x18_67 : C_ := .seq (.seq (r_ x18_45) (.cnd 131 (.seq (r_ x18_46) .ret) .skip)) (.seq (.seq (r_ x18_50) (.block 4 (.loop (.seq (r_ x18_51) (.seq (.cnd 137 .skip (.exit 4)) (.seq (.block 5 (.seq (r_ x18_53) (r_ x18_54))) (r_ x18_57))))))) (.seq (r_ x18_64) .ret))
def x18_73 : C_ := .seq (r_ x18_3) (.seq (.seq (r_ x18_4) (.block 0 (.loop (.seq (r_ x18_5) (.seq (.cnd 41 .skip (.exit 0)) (.seq (.block 1 (.seq (r_ x18_7) (r_ x18_8))) (r_ x18_11))))))) (.seq (.seq (r_ x18_18) (.cnd 66 (.seq (r_ x18_19) .ret) .skip)) (.seq (r_ x18_23) (.seq (.seq (r_ x18_24) (.block 2 x18_41)) (.seq (r_ x18_44) x18_67)))))
def x18_74 : C_ := .seq (r_ x18_2) x18_73
def x18_76 : C_ := .seq (r_ x18_0) (.seq (.draw x18_1 [[], [], [1], [0, 1, 2], [0, 1, 2, 3], [0, 1, 2, 3, 4], [0, 1, 2, 3, 4], [], [0, 1, 2, 3, 4, 5, 7], [0, 1, 2, 3, 4, 5, 6, 7, 8]]) x18_74)
def x18 : C_ := x18_76
theorem fx18 : fnx Try.prog 18 = some (158, [(2, none), (3, none)], x18) := by kernel_rfl
def x22_0 : L_ := [q_ 4 (.mv (.const (.pointer none))),
 q_ 5 (mi_ 0)]
def x22_1 : L_ := [q_ 7 (m_ 1),
 q_ 8 (m_ 0),
 q_ 9 (.lenS 8),
 q_ 10 (.bin .lss 7 9),
 q_ 11 (m_ 10),
 og_ 12 11 false (m_ 1),
 og_ 13 11 false (.bin .gtr 12 (ci_ 4194304)),
 ⟨(some 14), .pick 11 bt_ 13, none⟩]
def x22_2 : L_ := [q_ 4 (.mv (.const (.pointer none))),
 q_ 5 (mi_ 1)]
def x22_6 : L_ := [q_ 15 (m_ 1),
 q_ 16 (.mks [(.int .u8 0)] 1 15 15),
 q_ 17 (.mkmap 35 26 (.agg #[(.int .i64 0), (.int .i64 0), (.int .i64 0), (.int .i64 0), (.int .i64 0)])),
 q_ 18 (.build [(.slice none 0 0), (.int .u64 0), (.int .u64 0), (.int .u64 0), (.int .u64 0), (.int .u64 0), (.int .u64 0), (.int .u64 0), (.int .u64 0), (.int .u64 0), (.int .u64 0), (.int .u64 0), (.int .u64 0), (.int .u64 0), (.int .u64 0), (.int .u64 0), (.int .u64 0), (.int .u64 0), (.int .u64 0), (.int .u64 0), (.int .u64 0), (.int .u64 0), (.int .u64 0), (.int .u64 0), (.int .u64 0), (.int .u64 0), (.int .u64 0), (.int .u64 0), (.int .u64 0), (.int .u64 0), (.int .u64 0), (.int .u64 0), (.int .u64 0), (.int .u64 0), (.int .i64 0), (.int .u8 0), (.map none)] [(0, 1, 16), (36, 1, 17)]),
 q_ 19 (.box 18),
 q_ 6 (m_ 19)]
def x22_7 : L_ := [q_ 20 (m_ 6),
 q_ 21 (.nilck 20),
 q_ 22 (.faddr 0 21),
 q_ 23 (.load .one 1 22),
 q_ 24 (m_ 0),
 q_ 25 (.cpy 1 23 24)]
def x22_8 : L_ := [q_ 26 (m_ 6),
 q_ 4 (m_ 26),
 q_ 5 (mi_ 0)]
def x22_13 : C_ := .seq (r_ x22_0) (.seq (.seq (r_ x22_1) (.cnd 14 (.seq (r_ x22_2) .ret) .skip)) (.seq (r_ x22_6) (.seq (r_ x22_7) (.seq (r_ x22_8) .ret))))
def x22 : C_ := x22_13
theorem fx22 : fnx Try.prog 22 = some (27, [(4, none), (5, none)], x22) := by kernel_rfl
def x24_0 : L_ := [q_ 6 (.new [(.int .i64 0), (.int .u8 0), (.int .i64 0), (.slice none 0 0), (.int .i64 0), (.int .i64 0)])]
def x24_1 : L_ := [q_ 10 (m_ 0),
 q_ 11 (m_ 1),
 q_ 12 (m_ 2),
 oc_ 13 48 [10, 11, 12, bf_],
 q_ 9 (m_ 13),
 q_ 14 (.ext 9 0),
 q_ 15 (.ext 9 1),
 q_ 7 (.new [(.int .i64 0), (.int .u8 0), (.int .i64 0), (.slice none 0 0), (.int .i64 0), (.int .i64 0)]),
 on_ (.store 6 7 14),
 q_ 8 (m_ 15)]
def x24_2 : L_ := [q_ 16 (.load .agg 6 7),
 on_ (.store 6 6 16)]
def x24_5 : C_ := .seq (r_ x24_0) (.seq (r_ x24_1) (.seq (r_ x24_2) .ret))
def x24 : C_ := x24_5
theorem fx24 : fnx Try.prog 24 = some (17, [(6, (some (.agg, 6)))], x24) := by kernel_rfl
def x25_0 : L_ := [q_ 4 (.mv (ck_ .u64 0))]
def x25_1 : L_ := [q_ 5 (m_ 1),
 q_ 6 (.bin .lss 5 (ci_ 0)),
 q_ 7 (m_ 6),
 og_ 8 7 false (m_ 1),
 og_ 9 7 false (.bin .gtr 8 (ci_ 31)),
 ⟨(some 10), .pick 7 bt_ 9, none⟩]
def x25_2 : L_ := [q_ 4 (.mv (ck_ .u64 0))]
def x25_6 : L_ := [q_ 11 (m_ 0),
 q_ 12 (m_ 1),
 q_ 13 (.nilck 11),
 q_ 14 (.faddr 1 13),
 q_ 15 (.iaddrA true 32 1 14 12),
 q_ 16 (.load (.int .u64) 1 15),
 q_ 4 (m_ 16)]
def x25_9 : C_ := .seq (r_ x25_0) (.seq (.seq (r_ x25_1) (.cnd 10 (.seq (r_ x25_2) .ret) .skip)) (.seq (r_ x25_6) .ret))
def x25 : C_ := x25_9
theorem fx25 : fnx Try.prog 25 = some (17, [(4, none)], x25) := by kernel_rfl
def x26_0 : L_ := [q_ 6 (m_ 1),
 q_ 7 (.bin .gtr 6 (ci_ 0)),
 q_ 8 (m_ 7),
 og_ 9 8 true (m_ 1),
 og_ 10 8 true (.bin .lss 9 (ci_ 32)),
 ⟨(some 11), .pick 8 10 bf_, none⟩]
def x26_1 : L_ := [q_ 12 (m_ 0),
 q_ 13 (m_ 1),
 q_ 14 (m_ 2),
 q_ 15 (.nilck 12),
 q_ 16 (.faddr 1 15),
 q_ 17 (.iaddrA true 32 1 16 13),
 on_ (.store 1 17 14)]
def x26_3 : C_ := .seq (r_ x26_0) (.cnd 11 (r_ x26_1) .skip)
def x26 : C_ := x26_3
theorem fx26 : fnx Try.prog 26 = some (18, [], x26) := by kernel_rfl
def x36_0 : L_ := [q_ 6 (.mv (ck_ .u64 0)),
 q_ 7 (mi_ 0)]
def x36_1 : L_ := [q_ 9 (m_ 1),
 q_ 10 (.bin .lss 9 (ci_ 1)),
 q_ 11 (m_ 10),
 og_ 12 11 false (m_ 1),
 og_ 13 11 false (.bin .gtr 12 (ci_ 64)),
 ⟨(some 14), .pick 11 bt_ 13, none⟩]
def x36_2 : L_ := [q_ 6 (.mv (ck_ .u64 0)),
 q_ 7 (mi_ 1)]
def x36_6 : L_ := [q_ 15 (m_ 1),
 q_ 16 (.bin .sub (ci_ 64) 15),
 q_ 8 (m_ 16)]
def x36_7 : L_ := [q_ 17 (m_ 2)]
def x36_8 : L_ := [q_ 18 (m_ 0),
 q_ 19 (m_ 8),
 q_ 20 (.bin .shl 18 19),
 q_ 21 (.conv .i64 20),
 q_ 22 (m_ 8),
 q_ 23 (.bin .shr 21 22),
 q_ 24 (.conv .u64 23),
 q_ 6 (m_ 24),
 q_ 7 (mi_ 0)]
def x36_12 : L_ := [q_ 25 (m_ 0),
 q_ 26 (m_ 8),
 q_ 27 (.bin .shl 25 26),
 q_ 28 (m_ 8),
 q_ 29 (.bin .shr 27 28),
 q_ 6 (m_ 29),
 q_ 7 (mi_ 0)]
def x36_17 : C_ := .seq (r_ x36_0) (.seq (.seq (r_ x36_1) (.cnd 14 (.seq (r_ x36_2) .ret) .skip)) (.seq (r_ x36_6) (.seq (.seq (r_ x36_7) (.cnd 17 (.seq (r_ x36_8) .ret) .skip)) (.seq (r_ x36_12) .ret))))
def x36 : C_ := x36_17
theorem fx36 : fnx Try.prog 36 = some (30, [(6, none), (7, none)], x36) := by kernel_rfl
def x38_0 : L_ := [q_ 2 (.mv (.const (.slice none 0 0)))]
def x38_1 : L_ := [q_ 3 (.mv (.const (.slice none 0 0)))]
def x38_2 : L_ := [q_ 6 (m_ 0),
 q_ 7 (.lenS 6),
 q_ 8 (mi_ 0)]
def x38_3 : L_ := [q_ 9 (.bin .lss 8 7)]
def x38_5 : L_ := [q_ 10 (.iaddrS 1 6 8),
 q_ 11 (.load (.int .u32) 1 10),
 q_ 5 (m_ 11)]
def x38_6 : L_ := [q_ 12 (m_ 3),
 q_ 13 (m_ 5),
 q_ 14 (.conv .u8 13),
 q_ 15 (m_ 5),
 q_ 16 (.bin .shr 15 (ck_ .u64 8)),
 q_ 17 (.conv .u8 16),
 q_ 18 (m_ 5),
 q_ 19 (.bin .shr 18 (ck_ .u64 16)),
 q_ 20 (.conv .u8 19),
 q_ 21 (m_ 5),
 q_ 22 (.bin .shr 21 (ck_ .u64 24)),
 q_ 23 (.conv .u8 22),
 q_ 24 (.mkslice [(.int .u8 0)] 4 [(0, 14), (1, 17), (2, 20), (3, 23)]),
 q_ 25 (.app 1 1 12 24),
 q_ 3 (m_ 25)]
def x38_9 : L_ := [q_ 26 (.bin .add 8 (ci_ 1)),
 q_ 8 (m_ 26)]
def x38_12 : C_ := .seq (r_ x38_3) (.seq (.cnd 9 .skip (.exit 0)) (.seq (.block 1 (.seq (r_ x38_5) (r_ x38_6))) (r_ x38_9)))
def x38_16 : L_ := [q_ 27 (m_ 3),
 q_ 2 (m_ 27)]
def x38_17 : C_ := .seq (r_ x38_16) .ret
def x38_20 : C_ := .seq (r_ x38_0) (.seq (r_ x38_1) (.seq (.seq (r_ x38_2) (.block 0 (.loop x38_12))) x38_17))
def x38 : C_ := x38_20
theorem fx38 : fnx Try.prog 38 = some (28, [(2, none)], x38) := by kernel_rfl
def x39_0 : L_ := [q_ 2 (mi_ 0)]
def x39_1 : L_ := [q_ 13 (m_ 0),
 q_ 14 (.nilck 13),
 q_ 15 (.faddr 2 14),
 q_ 16 (.load (.int .i64) 1 15),
 q_ 17 (.bin .rem 16 (ci_ 4)),
 q_ 18 (.bin .neq 17 (ci_ 0)),
 q_ 19 (m_ 18),
 og_ 20 19 false (m_ 0),
 og_ 21 19 false (.nilck 20),
 og_ 22 19 false (.faddr 2 21),
 og_ 23 19 false (.load (.int .i64) 1 22),
 og_ 24 19 false (.bin .lss 23 (ci_ 0)),
 ⟨(some 25), .pick 19 bt_ 24, none⟩,
 q_ 26 (m_ 25),
 og_ 27 26 false (m_ 0),
 og_ 28 26 false (.nilck 27),
 og_ 29 26 false (.faddr 2 28),
 og_ 30 26 false (.load (.int .i64) 1 29),
 og_ 31 26 false (.bin .gtr 30 (ci_ 4194304)),
 ⟨(some 32), .pick 26 bt_ 31, none⟩]
def x39_2 : L_ := [q_ 2 (mi_ 1)]
def x39_6 : L_ := [q_ 33 (m_ 0),
 q_ 34 (.nilck 33),
 q_ 35 (.faddr 0 34),
 q_ 36 (.load .one 1 35),
 q_ 37 (.lenS 36),
 q_ 38 (.bin .gtr 37 (ci_ 65536))]
def x39_7 : L_ := [q_ 2 (mi_ 3)]
def x39_11 : L_ := [q_ 39 (m_ 0),
 q_ 40 (.nilck 39),
 q_ 41 (.faddr 0 40),
 q_ 42 (.load .one 1 41),
 q_ 43 (.lenS 42),
 q_ 44 (mi_ 0)]
def x39_12 : L_ := [q_ 45 (.bin .lss 44 43)]
def x39_14 : L_ := [q_ 46 (.iaddrS 8 42 44),
 q_ 47 (.load .agg 8 46),
 q_ 4 (.new [se_, (.int .i64 0), (.int .i64 0), (.int .i64 0), (.int .i64 0), (.int .i64 0), se_, (.int .i64 0)]),
 on_ (.store 8 4 47)]
def x39_15 : L_ := [q_ 48 (.load .agg 8 4),
 oc_ 49 51 [48],
 q_ 50 (.un .not 49)]
def x39_16 : L_ := [q_ 2 (mi_ 2)]
def x39_22 : L_ := [q_ 51 (.bin .add 44 (ci_ 1)),
 q_ 44 (m_ 51)]
def x39_25 : C_ := .seq (r_ x39_12) (.seq (.cnd 45 .skip (.exit 0)) (.seq (.block 1 (.seq (r_ x39_14) (.seq (r_ x39_15) (.cnd 50 (.seq (r_ x39_16) .ret) .skip)))) (r_ x39_22)))
def x39_29 : L_ := [q_ 52 (m_ 0),
 q_ 53 (.nilck 52),
 q_ 54 (.faddr 0 53),
 q_ 55 (.load .one 1 54),
 q_ 56 (.lenS 55),
 q_ 57 (mi_ 0)]
def x39_30 : L_ := [q_ 58 (.bin .lss 57 56)]
def x39_32 : L_ := [q_ 59 (.iaddrS 8 55 57),
 q_ 60 (.load .agg 8 59),
 q_ 6 (.new [se_, (.int .i64 0), (.int .i64 0), (.int .i64 0), (.int .i64 0), (.int .i64 0), se_, (.int .i64 0)]),
 on_ (.store 8 6 60)]
def x39_33 : L_ := [q_ 62 (m_ 0),
 q_ 63 (.nilck 62),
 q_ 64 (.faddr 3 63),
 q_ 65 (.load .one 1 64),
 q_ 66 (.faddr 0 6),
 q_ 67 (.load .str 1 66),
 q_ 68 (.lookup 9 3 .string (.int .i64 0) true 65 67),
 q_ 61 (m_ 68),
 q_ 69 (.ext 61 0),
 q_ 70 (.ext 61 1),
 q_ 7 (m_ 69),
 q_ 8 (m_ 70)]
def x39_34 : L_ := [q_ 71 (m_ 8)]
def x39_35 : L_ := [q_ 2 (mi_ 18)]
def x39_40 : L_ := [q_ 72 (.faddr 0 6),
 q_ 73 (.load .str 1 72),
 q_ 74 (.bin .neq 73 (.const se_))]
def x39_41 : L_ := [q_ 75 (m_ 0),
 q_ 76 (.nilck 75),
 q_ 77 (.faddr 3 76),
 q_ 78 (.load .one 1 77),
 q_ 79 (.faddr 0 6),
 q_ 80 (.load .str 1 79),
 on_ (.mapupd 9 3 .string 78 80 (ci_ 0))]
def x39_47 : L_ := [q_ 81 (.bin .add 57 (ci_ 1)),
 q_ 57 (m_ 81)]
def x39_50 : C_ := .seq (r_ x39_30) (.seq (.cnd 58 .skip (.exit 2)) (.seq (.block 3 (.seq (r_ x39_32) (.seq (.seq (.draw x39_33 [[], [0], [0, 1], [0, 1, 2], [], [4], [0, 1, 2, 3, 4, 5], [0, 1, 2, 3, 4, 5, 6], [0, 1, 2, 3, 4, 5, 6, 7], [0, 1, 2, 3, 4, 5, 6, 7], [0, 1, 2, 3, 4, 5, 6, 7, 8], [0, 1, 2, 3, 4, 5, 6, 7, 8, 9, 10]]) (.seq (r_ x39_34) (.cnd 71 (.seq (r_ x39_35) .ret) .skip))) (.seq (r_ x39_40) (.cnd 74 (.draw x39_41 [[], [0], [0, 1], [0, 1, 2], [], [4], [0, 1, 2, 3, 4, 5]]) .skip))))) (r_ x39_47)))
def x39_54 : L_ := [q_ 82 (m_ 0),
 q_ 83 (.nilck 82),
 q_ 84 (.faddr 0 83),
 q_ 85 (.load .one 1 84),
 q_ 86 (.lenS 85),
 q_ 87 (mi_ 0)]
def x39_55 : L_ := [q_ 88 (.bin .lss 87 86)]
def x39_57 : L_ := [q_ 89 (.iaddrS 8 85 87),
 q_ 90 (.load .agg 8 89),
 q_ 10 (.new [se_, (.int .i64 0), (.int .i64 0), (.int .i64 0), (.int .i64 0), (.int .i64 0), se_, (.int .i64 0)]),
 on_ (.store 8 10 90)]
def x39_58 : L_ := [q_ 92 (m_ 0),
 q_ 93 (.nilck 92),
 q_ 94 (.faddr 3 93),
 q_ 95 (.load .one 1 94),
 q_ 96 (.faddr 6 10),
 q_ 97 (.load .str 1 96),
 q_ 98 (.lookup 9 3 .string (.int .i64 0) true 95 97),
 q_ 91 (m_ 98),
 q_ 99 (.ext 91 0),
 q_ 100 (.ext 91 1),
 q_ 11 (m_ 99),
 q_ 12 (m_ 100)]
def x39_59 : L_ := [q_ 101 (.faddr 6 10),
 q_ 102 (.load .str 1 101),
 q_ 103 (.bin .neq 102 (.const se_)),
 q_ 104 (m_ 103),
 og_ 105 104 true (m_ 12),
 og_ 106 104 true (.un .not 105),
 ⟨(some 107), .pick 104 106 bf_, none⟩]
def x39_60 : L_ := [q_ 2 (mi_ 17)]
def x39_67 : L_ := [q_ 108 (.bin .add 87 (ci_ 1)),
 q_ 87 (m_ 108)]
def x39_70 : C_ := .seq (r_ x39_55) (.seq (.cnd 88 .skip (.exit 4)) (.seq (.block 5 (.seq (r_ x39_57) (.seq (.draw x39_58 [[], [0], [0, 1], [0, 1, 2], [], [4], [0, 1, 2, 3, 4, 5], [0, 1, 2, 3, 4, 5, 6], [0, 1, 2, 3, 4, 5, 6, 7], [0, 1, 2, 3, 4, 5, 6, 7], [0, 1, 2, 3, 4, 5, 6, 7, 8], [0, 1, 2, 3, 4, 5, 6, 7, 8, 9, 10]]) (.seq (r_ x39_59) (.cnd 107 (.seq (r_ x39_60) .ret) .skip))))) (r_ x39_67)))
def x39_74 : L_ := [q_ 2 (mi_ 0)]
def x39_75 : C_ := .seq (r_ x39_74) .ret
def x39_76 : C_ := .seq (.seq (r_ x39_54) (.block 4 (.loop x39_70))) x39_75
def x39_77 : C_ := .seq (.seq (r_ x39_29) (.block 2 (.loop x39_50))) x39_76
def x39_81 : C_ := .seq (r_ x39_0) (.seq (.seq (r_ x39_1) (.cnd 32 (.seq (r_ x39_2) .ret) .skip)) (.seq (.seq (r_ x39_6) (.cnd 38 (.seq (r_ x39_7) .ret) .skip)) (.seq (.seq (r_ x39_11) (.block 0 (.loop x39_25))) x39_77)))
def x39 : C_ := x39_81
theorem fx39 : fnx Try.prog 39 = some (109, [(2, none)], x39) := by kernel_rfl
def x40_0 : L_ := [q_ 5 (m_ 0),
 q_ 6 (.nilck 5),
 q_ 7 (.faddr 2 6),
 q_ 8 (.load (.int .i64) 1 7),
 q_ 2 (m_ 8)]
def x40_1 : L_ := [q_ 9 (m_ 0),
 q_ 10 (.nilck 9),
 q_ 11 (.faddr 0 10),
 q_ 12 (.load .one 1 11),
 q_ 13 (.lenS 12),
 q_ 14 (mi_ 0)]
def x40_2 : L_ := [q_ 15 (.bin .lss 14 13)]
def x40_4 : L_ := [q_ 16 (m_ 14),
 q_ 17 (.iaddrS 8 12 14),
 q_ 18 (.load .agg 8 17),
 q_ 4 (.new [se_, (.int .i64 0), (.int .i64 0), (.int .i64 0), (.int .i64 0), (.int .i64 0), se_, (.int .i64 0)]),
 q_ 3 (m_ 16),
 on_ (.store 8 4 18)]
def x40_5 : L_ := [q_ 19 (m_ 0),
 q_ 20 (.nilck 19),
 q_ 21 (.faddr 4 20),
 q_ 22 (.load .one 1 21),
 q_ 23 (m_ 3),
 q_ 24 (m_ 2),
 q_ 25 (.iaddrS 1 22 23),
 on_ (.store 1 25 24)]
def x40_6 : L_ := [q_ 29 (.faddr 0 4),
 q_ 30 (.load .str 1 29),
 q_ 31 (.bin .neq 30 (.const se_)),
 q_ 28 (m_ 31)]
def x40_7 : L_ := [q_ 32 (m_ 0),
 q_ 33 (.nilck 32),
 q_ 34 (.faddr 3 33),
 q_ 35 (.load .one 1 34),
 q_ 36 (.faddr 0 4),
 q_ 37 (.load .str 1 36),
 q_ 38 (m_ 2),
 on_ (.mapupd 9 3 .string 35 37 38)]
def x40_8 : L_ := [q_ 40 (m_ 0),
 q_ 41 (.nilck 40),
 q_ 42 (.faddr 1 41),
 q_ 43 (.load .one 1 42),
 q_ 44 (m_ 3),
 q_ 45 (.iaddrS 1 43 44),
 q_ 46 (.load .bool 1 45),
 q_ 39 (m_ 46)]
def x40_9 : L_ := [q_ 47 (m_ 2),
 q_ 48 (.bin .add 47 (ci_ 8)),
 q_ 2 (m_ 48)]
def x40_10 : L_ := [q_ 26 (m_ 2),
 q_ 27 (.bin .add 26 (ci_ 4)),
 q_ 2 (m_ 27)]
def x40_19 : L_ := [q_ 49 (.bin .add 14 (ci_ 1)),
 q_ 14 (m_ 49)]
def x40_21 : C_ := .seq (.cnd 15 .skip (.exit 0)) (.seq (.block 1 (.seq (r_ x40_4) (.seq (r_ x40_5) (.block 2 (.seq (r_ x40_6) (.cnd 28 (.draw x40_7 [[], [0], [0, 1], [0, 1, 2], [], [4], [], [0, 1, 2, 3, 4, 5, 6]]) (.seq (r_ x40_8) (.cnd 39 (r_ x40_9) (r_ x40_10))))))))) (r_ x40_19))
def x40_22 : C_ := .seq (r_ x40_2) x40_21
def x40_26 : C_ := .seq (r_ x40_0) (.seq (r_ x40_1) (.block 0 (.loop x40_22)))
def x40 : C_ := x40_26
theorem fx40 : fnx Try.prog 40 = some (50, [], x40) := by kernel_rfl
def x41_0 : L_ := [q_ 2 (.mv bf_)]
def x41_1 : L_ := [q_ 3 (.mv bf_)]
def x41_2 : L_ := [q_ 6 (m_ 0),
 q_ 7 (.nilck 6),
 q_ 8 (.faddr 0 7),
 q_ 9 (.load .one 1 8),
 q_ 10 (.lenS 9),
 q_ 11 (mi_ 0)]
def x41_3 : L_ := [q_ 12 (.bin .lss 11 10)]
def x41_5 : L_ := [q_ 13 (m_ 11),
 q_ 14 (.iaddrS 8 9 11),
 q_ 15 (.load .agg 8 14),
 q_ 5 (.new [se_, (.int .i64 0), (.int .i64 0), (.int .i64 0), (.int .i64 0), (.int .i64 0), se_, (.int .i64 0)]),
 q_ 4 (m_ 13),
 on_ (.store 8 5 15)]
def x41_6 : L_ := [q_ 16 (.faddr 0 5),
 q_ 17 (.load .str 1 16),
 q_ 18 (.bin .eql 17 (.const se_)),
 q_ 19 (m_ 18),
 og_ 20 19 true (.faddr 1 5),
 og_ 21 19 true (.faddr 0 20),
 og_ 22 19 true (.load (.int .i64) 1 21),
 ⟨(some 23), .callF 52 [22], (some (19, true))⟩,
 ⟨(some 24), .pick 19 23 bf_, none⟩,
 q_ 25 (m_ 24),
 og_ 26 25 true (.faddr 6 5),
 og_ 27 25 true (.load .str 1 26),
 og_ 28 25 true (.bin .neq 27 (.const se_)),
 ⟨(some 29), .pick 25 28 bf_, none⟩,
 q_ 30 (m_ 29),
 og_ 31 30 true (m_ 0),
 og_ 32 30 true (.nilck 31),
 og_ 33 30 true (.faddr 1 32),
 og_ 34 30 true (.load .one 1 33),
 og_ 35 30 true (m_ 4),
 og_ 36 30 true (.iaddrS 1 34 35),
 og_ 37 30 true (.load .bool 1 36),
 og_ 38 30 true (.un .not 37),
 ⟨(some 39), .pick 30 38 bf_, none⟩,
 q_ 40 (m_ 39),
 og_ 41 40 true (.faddr 1 5),
 og_ 42 40 true (.faddr 0 41),
 og_ 43 40 true (.load (.int .i64) 1 42),
 og_ 44 40 true (m_ 0),
 og_ 45 40 true (.nilck 44),
 og_ 46 40 true (.faddr 3 45),
 og_ 47 40 true (.load .one 1 46),
 og_ 48 40 true (.faddr 6 5),
 og_ 49 40 true (.load .str 1 48),
 og_ 50 40 true (.lookup 9 3 .string (.int .i64 0) false 47 49),
 og_ 51 40 true (m_ 0),
 og_ 52 40 true (.nilck 51),
 og_ 53 40 true (.faddr 4 52),
 og_ 54 40 true (.load .one 1 53),
 og_ 55 40 true (m_ 4),
 og_ 56 40 true (.iaddrS 1 54 55),
 og_ 57 40 true (.load (.int .i64) 1 56),
 og_ 58 40 true (.bin .sub 50 57),
 ⟨(some 59), .callF 53 [43, 58], (some (40, true))⟩,
 og_ 60 40 true (.un .not 59),
 ⟨(some 61), .pick 40 60 bf_, none⟩]
def x41_7 : L_ := [q_ 62 (m_ 0),
 q_ 63 (.nilck 62),
 q_ 64 (.faddr 1 63),
 q_ 65 (.load .one 1 64),
 q_ 66 (m_ 4),
 q_ 67 (.iaddrS 1 65 66),
 on_ (.store 1 67 bt_),
 q_ 3 (.mv bt_)]
def x41_9 : C_ := .seq (.draw x41_6 [[], [0], [0, 1], [0, 1, 2], [0, 1, 2, 3], [0, 1, 2, 3, 4], [0, 1, 2, 3, 4, 5], [0, 1, 2, 3, 4, 5, 6], [0, 1, 2, 3, 4, 5, 6, 7], [0, 1, 2, 3, 4, 5, 6, 7, 8], [0, 1, 2, 3, 4, 5, 6, 7, 8, 9], [0, 1, 2, 3, 4, 5, 6, 7, 8, 9, 10], [0, 1, 2, 3, 4, 5, 6, 7, 8, 9, 10, 11], [0, 1, 2, 3, 4, 5, 6, 7, 8, 9, 10, 11, 12], [0, 1, 2, 3, 4, 5, 6, 7, 8, 9, 10, 11, 12, 13], [0, 1, 2, 3, 4, 5, 6, 7, 8, 9, 10, 11, 12, 13, 14], [0, 1, 2, 3, 4, 5, 6, 7, 8, 9, 10, 11, 12, 13, 14, 15], [0, 1, 2, 3, 4, 5, 6, 7, 8, 9, 10, 11, 12, 13, 14, 15, 16], [0, 1, 2, 3, 4, 5, 6, 7, 8, 9, 10, 11, 12, 13, 14, 15, 16, 17], [0, 1, 2, 3, 4, 5, 6, 7, 8, 9, 10, 11, 12, 13, 14], [0, 1, 2, 3, 4, 5, 6, 7, 8, 9, 10, 11, 12, 13, 14, 15, 16, 17, 18, 19], [0, 1, 2, 3, 4, 5, 6, 7, 8, 9, 10, 11, 12, 13, 14, 15, 16, 17, 18, 19, 20], [0, 1, 2, 3, 4, 5, 6, 7, 8, 9, 10, 11, 12, 13, 14, 15, 16, 17, 18, 19, 20, 21], [0, 1, 2, 3, 4, 5, 6, 7, 8, 9, 10, 11, 12, 13, 14, 15, 16, 17, 18, 19, 20, 21, 22], [0, 1, 2, 3, 4, 5, 6, 7, 8, 9, 10, 11, 12, 13, 14, 15, 16, 17, 18, 19, 20, 21, 22, 23], [0, 1, 2, 3, 4, 5, 6, 7, 8, 9, 10, 11, 12, 13, 14, 15, 16, 17, 18, 19, 20, 21, 22, 23, 24], [0, 1, 2, 3, 4, 5, 6, 7, 8, 9, 10, 11, 12, 13, 14, 15, 16, 17, 18, 19, 20, 21, 22, 23, 24, 25], [0, 1, 2, 3, 4, 5, 6, 7, 8, 9, 10, 11, 12, 13, 14, 15, 16, 17, 18, 19, 20, 21, 22, 23, 24, 25, 26], [0, 1, 2, 3, 4, 5, 6, 7, 8, 9, 10, 11, 12, 13, 14, 15, 16, 17, 18, 19, 20, 21, 22, 23, 24], [0, 1, 2, 3, 4, 5, 6, 7, 8, 9, 10, 11, 12, 13, 14, 15, 16, 17, 18, 19, 20, 21, 22, 23, 24, 28], [0, 1, 2, 3, 4, 5, 6, 7, 8, 9, 10, 11, 12, 13, 14, 15, 16, 17, 18, 19, 20, 21, 22, 23, 24, 28, 29], [0, 1, 2, 3, 4, 5, 6, 7, 8, 9, 10, 11, 12, 13, 14, 15, 16, 17, 18, 19, 20, 21, 22, 23, 24, 28, 29, 30], [0, 1, 2, 3, 4, 5, 6, 7, 8, 9, 10, 11, 12, 13, 14, 15, 16, 17, 18, 19, 20, 21, 22, 23, 24], [0, 1, 2, 3, 4, 5, 6, 7, 8, 9, 10, 11, 12, 13, 14, 15, 16, 17, 18, 19, 20, 21, 22, 23, 24, 32], [0, 1, 2, 3, 4, 5, 6, 7, 8, 9, 10, 11, 12, 13, 14, 15, 16, 17, 18, 19, 20, 21, 22, 23, 24, 28, 29, 30, 31, 32, 33], [0, 1, 2, 3, 4, 5, 6, 7, 8, 9, 10, 11, 12, 13, 14, 15, 16, 17, 18, 19, 20, 21, 22, 23, 24], [0, 1, 2, 3, 4, 5, 6, 7, 8, 9, 10, 11, 12, 13, 14, 15, 16, 17, 18, 19, 20, 21, 22, 23, 24, 35], [0, 1, 2, 3, 4, 5, 6, 7, 8, 9, 10, 11, 12, 13, 14, 15, 16, 17, 18, 19, 20, 21, 22, 23, 24, 35, 36], [0, 1, 2, 3, 4, 5, 6, 7, 8, 9, 10, 11, 12, 13, 14, 15, 16, 17, 18, 19, 20, 21, 22, 23, 24, 35, 36, 37], [0, 1, 2, 3, 4, 5, 6, 7, 8, 9, 10, 11, 12, 13, 14, 15, 16, 17, 18, 19, 20, 21, 22, 23, 24], [0, 1, 2, 3, 4, 5, 6, 7, 8, 9, 10, 11, 12, 13, 14, 15, 16, 17, 18, 19, 20, 21, 22, 23, 24, 35, 36, 37, 38, 39], [0, 1, 2, 3, 4, 5, 6, 7, 8, 9, 10, 11, 12, 13, 14, 15, 16, 17, 18, 19, 20, 21, 22, 23, 24, 35, 36, 37, 38, 39, 40], [0, 1, 2, 3, 4, 5, 6, 7, 8, 9, 10, 11, 12, 13, 14, 15, 16, 17, 18, 19, 20, 21, 22, 23, 24, 28, 29, 30, 31, 32, 33, 34, 35, 36, 37, 38, 39, 40, 41], [0, 1, 2, 3, 4, 5, 6, 7, 8, 9, 10, 11, 12, 13, 14, 15, 16, 17, 18, 19, 20, 21, 22, 23, 24, 25, 26, 27, 28, 29, 30, 31, 32, 33, 34, 35, 36, 37, 38, 39, 40, 41, 42], [0, 1, 2, 3, 4, 5, 6, 7, 8, 9, 10, 11, 12, 13, 14, 15, 16, 17, 18, 19, 20, 21, 22, 23, 24, 25, 26, 27, 28, 29, 30, 31, 32, 33, 34, 35, 36, 37, 38, 39, 40, 41, 42, 43], [0, 1, 2, 3, 4, 5, 6, 7, 8, 9, 10, 11, 12, 13, 14, 15, 16, 17, 18, 19, 20, 21, 22, 23, 24, 25, 26, 27, 28, 29, 30, 31, 32, 33, 34, 35, 36, 37, 38, 39, 40, 41, 42, 43, 44]]) (.cnd 61 (r_ x41_7) .skip)
def x41_12 : L_ := [q_ 68 (.bin .add 11 (ci_ 1)),
 q_ 11 (m_ 68)]
def x41_15 : C_ := .seq (r_ x41_3) (.seq (.cnd 12 .skip (.exit 0)) (.seq (.block 1 (.seq (r_ x41_5) x41_9)) (r_ x41_12)))
def x41_19 : L_ := [q_ 69 (m_ 3),
 q_ 2 (m_ 69)]
def x41_20 : C_ := .seq (r_ x41_19) .ret
def x41_23 : C_ := .seq (r_ x41_0) (.seq (r_ x41_1) (.seq (.seq (r_ x41_2) (.block 0 (.loop x41_15))) x41_20))
def x41 : C_ := x41_23
theorem fx41 : fnx Try.prog 41 = some (70, [(2, none)], x41) := by kernel_rfl
def x42_0 : L_ := [q_ 4 (.mv (.const (.slice none 0 0)))]
def x42_1 : L_ := [q_ 8 (m_ 0),
 q_ 9 (.nilck 8),
 q_ 10 (.faddr 0 9),
 q_ 11 (.load .one 1 10),
 q_ 12 (m_ 1),
 q_ 13 (.iaddrS 8 11 12),
 q_ 14 (.faddr 1 13),
 q_ 15 (.load .agg 5 14),
 q_ 5 (.new (zs_ .i64 5)),
 on_ (.store 5 5 15)]
def x42_2 : L_ := [q_ 16 (m_ 0),
 q_ 17 (.nilck 16),
 q_ 18 (.faddr 0 17),
 q_ 19 (.load .one 1 18),
 q_ 20 (m_ 1),
 q_ 21 (.iaddrS 8 19 20),
 q_ 22 (.faddr 6 21),
 q_ 23 (.load .str 1 22),
 q_ 6 (m_ 23)]
def x42_3 : L_ := [q_ 24 (m_ 0),
 q_ 25 (.nilck 24),
 q_ 26 (.faddr 3 25),
 q_ 27 (.load .one 1 26),
 q_ 28 (m_ 6),
 q_ 29 (.lookup 9 3 .string (.int .i64 0) false 27 28),
 q_ 30 (m_ 0),
 q_ 31 (.nilck 30),
 q_ 32 (.faddr 4 31),
 q_ 33 (.load .one 1 32),
 q_ 34 (m_ 1),
 q_ 35 (.iaddrS 1 33 34),
 q_ 36 (.load (.int .i64) 1 35),
 q_ 37 (.bin .sub 29 36),
 q_ 7 (m_ 37)]
def x42_4 : L_ := [q_ 41 (m_ 6),
 q_ 42 (.bin .eql 41 (.const se_)),
 q_ 40 (m_ 42)]
def x42_5 : L_ := [q_ 44 (m_ 0),
 q_ 45 (.nilck 44),
 q_ 46 (.faddr 0 45),
 q_ 47 (.load .one 1 46),
 q_ 48 (m_ 1),
 q_ 49 (.iaddrS 8 47 48),
 q_ 50 (.faddr 7 49),
 q_ 51 (.load (.int .i64) 1 50),
 q_ 52 (.bin .eql 51 (ci_ 1)),
 q_ 43 (m_ 52)]
def x42_6 : L_ := [q_ 53 (m_ 0),
 q_ 54 (.nilck 53),
 q_ 55 (.faddr 3 54),
 q_ 56 (.load .one 1 55),
 q_ 57 (m_ 6),
 q_ 58 (.lookup 9 3 .string (.int .i64 0) false 56 57),
 oc_ 59 54 [58],
 q_ 60 (.faddr 4 5),
 on_ (.store 1 60 59)]
def x42_7 : L_ := [q_ 62 (m_ 0),
 q_ 63 (.nilck 62),
 q_ 64 (.faddr 0 63),
 q_ 65 (.load .one 1 64),
 q_ 66 (m_ 1),
 q_ 67 (.iaddrS 8 65 66),
 q_ 68 (.faddr 7 67),
 q_ 69 (.load (.int .i64) 1 68),
 q_ 70 (.bin .eql 69 (ci_ 2)),
 q_ 61 (m_ 70)]
def x42_8 : L_ := [q_ 71 (m_ 0),
 q_ 72 (.nilck 71),
 q_ 73 (.faddr 3 72),
 q_ 74 (.load .one 1 73),
 q_ 75 (m_ 6),
 q_ 76 (.lookup 9 3 .string (.int .i64 0) false 74 75),
 oc_ 77 55 [76],
 q_ 78 (.faddr 4 5),
 on_ (.store 1 78 77)]
def x42_9 : L_ := [q_ 80 (m_ 0),
 q_ 81 (.nilck 80),
 q_ 82 (.faddr 1 81),
 q_ 83 (.load .one 1 82),
 q_ 84 (m_ 1),
 q_ 85 (.iaddrS 1 83 84),
 q_ 86 (.load .bool 1 85),
 q_ 79 (m_ 86)]
def x42_10 : L_ := [q_ 87 (.faddr 0 5),
 q_ 88 (.load (.int .i64) 1 87),
 oc_ 89 56 [88],
 q_ 90 (.faddr 0 5),
 on_ (.store 1 90 89),
 q_ 91 (.faddr 4 5),
 on_ (.store 1 91 (ci_ 8))]
def x42_11 : L_ := [q_ 92 (.load .agg 5 5),
 q_ 93 (m_ 7),
 q_ 94 (.bin .sub 93 (ci_ 4)),
 q_ 95 (.build (zs_ .i64 5) [(0, 1, (ci_ 53)), (4, 1, 94)]),
 q_ 96 (.mkslice (zs_ .i64 5) 2 [(0, 92), (1, 95)]),
 q_ 4 (m_ 96)]
def x42_14 : L_ := [q_ 38 (m_ 7),
 q_ 39 (.faddr 4 5),
 on_ (.store 1 39 38)]
def x42_22 : C_ := .seq (r_ x42_4) (.cnd 40 .skip (.seq (r_ x42_5) (.cnd 43 (r_ x42_6) (.seq (r_ x42_7) (.cnd 61 (r_ x42_8) (.seq (r_ x42_9) (.cnd 79 (.seq (r_ x42_10) (.seq (r_ x42_11) .ret)) (r_ x42_14))))))))
def x42_24 : L_ := [q_ 97 (.load .agg 5 5),
 q_ 98 (.mkslice (zs_ .i64 5) 1 [(0, 97)]),
 q_ 4 (m_ 98)]
def x42_30 : C_ := .seq (r_ x42_0) (.seq (r_ x42_1) (.seq (r_ x42_2) (.seq (.draw x42_3 [[], [0], [0, 1], [0, 1, 2], [], [0, 1, 2, 3, 4], [], [6], [6, 7], [6, 7, 8], [], [6, 7, 8, 9, 10], [6, 7, 8, 9, 10, 11], [0, 1, 2, 3, 4, 5, 6, 7, 8, 9, 10, 11, 12], [0, 1, 2, 3, 4, 5, 6, 7, 8, 9, 10, 11, 12, 13]]) (.seq (.block 0 x42_22) (.seq (r_ x42_24) .ret)))))
def x42 : C_ := x42_30
theorem fx42 : fnx Try.prog 42 = some (99, [(4, none)], x42) := by kernel_rfl
def x43_0 : L_ := [q_ 0 (.mv (.const (.map none)))]
def x43_1 : L_ := [q_ 3 (.mkmap 3 104 (.agg #[(.int .u8 0), (.int .u32 0), (.int .u32 0), (.int .u32 0)])),
 q_ 1 (.new [(.map none)]),
 on_ (.store 1 1 3)]
def x43_2 : L_ := [q_ 4 (.mkfunc (.func 57) 0 [1]),
 q_ 2 (m_ 4)]
def x43_3 : L_ := [q_ 5 (m_ 2),
 q_ 6 (.build (zs_ .u32 3) [(0, 1, (ck_ .u32 1))]),
 q_ 7 (.build (zs_ .u32 3) [(0, 1, (ck_ .u32 2)), (1, 1, (ck_ .u32 0)), (2, 1, (ck_ .u32 32))]),
 q_ 8 (.build (zs_ .u32 3) [(0, 1, (ck_ .u32 3)), (1, 1, (ck_ .u32 1))]),
 q_ 9 (.build (zs_ .u32 3) [(0, 1, (ck_ .u32 4)), (1, 1, (ck_ .u32 2))]),
 q_ 10 (.build (zs_ .u32 3) [(0, 1, (ck_ .u32 5)), (1, 1, (ck_ .u32 3))]),
 q_ 11 (.build (zs_ .u32 3) [(0, 1, (ck_ .u32 6)), (1, 1, (ck_ .u32 4))]),
 q_ 12 (.build (zs_ .u32 3) [(0, 1, (ck_ .u32 7)), (1, 1, (ck_ .u32 5))]),
 q_ 13 (.build (zs_ .u32 3) [(0, 1, (ck_ .u32 8)), (1, 1, (ck_ .u32 5)), (2, 1, (ck_ .u32 32))]),
 q_ 14 (.build (zs_ .u32 3) [(0, 1, (ck_ .u32 9)), (1, 1, (ck_ .u32 6))]),
 q_ 15 (.build (zs_ .u32 3) [(0, 1, (ck_ .u32 10)), (1, 1, (ck_ .u32 7))]),
 q_ 16 (.mkslice (zs_ .u32 3) 10 [(0, 6), (1, 7), (2, 8), (3, 9), (4, 10), (5, 11), (6, 12), (7, 13), (8, 14), (9, 15)]),
 ⟨(some 17), .callV 5 [(ck_ .u8 82), (ck_ .u32 51), 16], none⟩]
def x43_4 : L_ := [q_ 18 (m_ 2),
 q_ 19 (.build (zs_ .u32 3) [(0, 1, (ck_ .u32 11)), (1, 1, (ck_ .u32 0)), (2, 1, (ck_ .u32 1))]),
 q_ 20 (.build (zs_ .u32 3) [(0, 1, (ck_ .u32 12)), (1, 1, (ck_ .u32 1)), (2, 1, (ck_ .u32 1))]),
 q_ 21 (.build (zs_ .u32 3) [(0, 1, (ck_ .u32 13)), (1, 1, (ck_ .u32 3)), (2, 1, (ck_ .u32 1))]),
 q_ 22 (.build (zs_ .u32 3) [(0, 1, (ck_ .u32 14)), (1, 1, (ck_ .u32 4)), (2, 1, (ck_ .u32 1))]),
 q_ 23 (.build (zs_ .u32 3) [(0, 1, (ck_ .u32 15)), (1, 1, (ck_ .u32 5)), (2, 1, (ck_ .u32 1))]),
 q_ 24 (.build (zs_ .u32 3) [(0, 1, (ck_ .u32 16)), (1, 1, (ck_ .u32 6)), (2, 1, (ck_ .u32 1))]),
 q_ 25 (.build (zs_ .u32 3) [(0, 1, (ck_ .u32 17)), (1, 1, (ck_ .u32 7)), (2, 1, (ck_ .u32 1))]),
 q_ 26 (.mkslice (zs_ .u32 3) 7 [(0, 19), (1, 20), (2, 21), (3, 22), (4, 23), (5, 24), (6, 25)]),
 ⟨(some 27), .callV 18 [(ck_ .u8 82), (ck_ .u32 51), 26], none⟩]
def x43_5 : L_ := [q_ 28 (m_ 2),
 q_ 29 (.build (zs_ .u32 3) [(0, 1, (ck_ .u32 18))]),
 q_ 30 (.build (zs_ .u32 3) [(0, 1, (ck_ .u32 19)), (1, 1, (ck_ .u32 0)), (2, 1, (ck_ .u32 32))]),
 q_ 31 (.build (zs_ .u32 3) [(0, 1, (ck_ .u32 20)), (1, 1, (ck_ .u32 1))]),
 q_ 32 (.build (zs_ .u32 3) [(0, 1, (ck_ .u32 21)), (1, 1, (ck_ .u32 5))]),
 q_ 33 (.build (zs_ .u32 3) [(0, 1, (ck_ .u32 22)), (1, 1, (ck_ .u32 5)), (2, 1, (ck_ .u32 32))]),
 q_ 34 (.build (zs_ .u32 3) [(0, 1, (ck_ .u32 23)), (1, 1, (ck_ .u32 0)), (2, 1, (ck_ .u32 1))]),
 q_ 35 (.build (zs_ .u32 3) [(0, 1, (ck_ .u32 24)), (1, 1, (ck_ .u32 4)), (2, 1, (ck_ .u32 1))]),
 q_ 36 (.build (zs_ .u32 3) [(0, 1, (ck_ .u32 25)), (1, 1, (ck_ .u32 5)), (2, 1, (ck_ .u32 1))]),
 q_ 37 (.build (zs_ .u32 3) [(0, 1, (ck_ .u32 26)), (1, 1, (ck_ .u32 6)), (2, 1, (ck_ .u32 1))]),
 q_ 38 (.build (zs_ .u32 3) [(0, 1, (ck_ .u32 27)), (1, 1, (ck_ .u32 7)), (2, 1, (ck_ .u32 1))]),
 q_ 39 (.mkslice (zs_ .u32 3) 10 [(0, 29), (1, 30), (2, 31), (3, 32), (4, 33), (5, 34), (6, 35), (7, 36), (8, 37), (9, 38)]),
 ⟨(some 40), .callV 28 [(ck_ .u8 82), (ck_ .u32 59), 39], none⟩]
def x43_6 : L_ := [q_ 41 (m_ 2),
 q_ 42 (.build (zs_ .u32 3) [(0, 1, (ck_ .u32 28))]),
 q_ 43 (.build (zs_ .u32 3) [(0, 1, (ck_ .u32 29)), (1, 1, (ck_ .u32 2))]),
 q_ 44 (.build (zs_ .u32 3) [(0, 1, (ck_ .u32 30)), (1, 1, (ck_ .u32 3))]),
 q_ 45 (.build (zs_ .u32 3) [(0, 1, (ck_ .u32 31)), (1, 1, (ck_ .u32 4))]),
 q_ 46 (.build (zs_ .u32 3) [(0, 1, (ck_ .u32 32)), (1, 1, (ck_ .u32 6))]),
 q_ 47 (.build (zs_ .u32 3) [(0, 1, (ck_ .u32 33)), (1, 1, (ck_ .u32 7))]),
 q_ 48 (.mkslice (zs_ .u32 3) 6 [(0, 42), (1, 43), (2, 44), (3, 45), (4, 46), (5, 47)]),
 ⟨(some 49), .callV 41 [(ck_ .u8 73), (ck_ .u32 19), 48], none⟩]
def x43_7 : L_ := [q_ 50 (m_ 2),
 q_ 51 (.build (zs_ .u32 3) [(0, 1, (ck_ .u32 34)), (1, 1, (ck_ .u32 1))]),
 q_ 52 (.build (zs_ .u32 3) [(0, 1, (ck_ .u32 35)), (1, 1, (ck_ .u32 5))]),
 q_ 53 (.build (zs_ .u32 3) [(0, 1, (ck_ .u32 36)), (1, 1, (ck_ .u32 5)), (2, 1, (ck_ .u32 32))]),
 q_ 54 (.mkslice (zs_ .u32 3) 3 [(0, 51), (1, 52), (2, 53)]),
 ⟨(some 55), .callV 50 [(ck_ .u8 84), (ck_ .u32 19), 54], none⟩]
def x43_8 : L_ := [q_ 56 (m_ 2),
 q_ 57 (.build (zs_ .u32 3) [(0, 1, (ck_ .u32 37))]),
 q_ 58 (.mkslice (zs_ .u32 3) 1 [(0, 57)]),
 ⟨(some 59), .callV 56 [(ck_ .u8 73), (ck_ .u32 27), 58], none⟩]
def x43_9 : L_ := [q_ 60 (m_ 2),
 q_ 61 (.build (zs_ .u32 3) [(0, 1, (ck_ .u32 38))]),
 q_ 62 (.build (zs_ .u32 3) [(0, 1, (ck_ .u32 40)), (1, 1, (ck_ .u32 2))]),
 q_ 63 (.build (zs_ .u32 3) [(0, 1, (ck_ .u32 41)), (1, 1, (ck_ .u32 3))]),
 q_ 64 (.build (zs_ .u32 3) [(0, 1, (ck_ .u32 39)), (1, 1, (ck_ .u32 4))]),
 q_ 65 (.mkslice (zs_ .u32 3) 4 [(0, 61), (1, 62), (2, 63), (3, 64)]),
 ⟨(some 66), .callV 60 [(ck_ .u8 73), (ck_ .u32 3), 65], none⟩]
def x43_10 : L_ := [q_ 67 (m_ 2),
 q_ 68 (.build (zs_ .u32 3) [(0, 1, (ck_ .u32 42))]),
 q_ 69 (.build (zs_ .u32 3) [(0, 1, (ck_ .u32 43)), (1, 1, (ck_ .u32 2))]),
 q_ 70 (.build (zs_ .u32 3) [(0, 1, (ck_ .u32 44)), (1, 1, (ck_ .u32 3))]),
 q_ 71 (.mkslice (zs_ .u32 3) 3 [(0, 68), (1, 69), (2, 70)]),
 ⟨(some 72), .callV 67 [(ck_ .u8 83), (ck_ .u32 35), 71], none⟩]
def x43_11 : L_ := [q_ 73 (m_ 2),
 q_ 74 (.build (zs_ .u32 3) [(0, 1, (ck_ .u32 45))]),
 q_ 75 (.build (zs_ .u32 3) [(0, 1, (ck_ .u32 46)), (1, 1, (ck_ .u32 1))]),
 q_ 76 (.build (zs_ .u32 3) [(0, 1, (ck_ .u32 47)), (1, 1, (ck_ .u32 4))]),
 q_ 77 (.build (zs_ .u32 3) [(0, 1, (ck_ .u32 48)), (1, 1, (ck_ .u32 5))]),
 q_ 78 (.build (zs_ .u32 3) [(0, 1, (ck_ .u32 49)), (1, 1, (ck_ .u32 6))]),
 q_ 79 (.build (zs_ .u32 3) [(0, 1, (ck_ .u32 50)), (1, 1, (ck_ .u32 7))]),
 q_ 80 (.mkslice (zs_ .u32 3) 6 [(0, 74), (1, 75), (2, 76), (3, 77), (4, 78), (5, 79)]),
 ⟨(some 81), .callV 73 [(ck_ .u8 66), (ck_ .u32 99), 80], none⟩]
def x43_12 : L_ := [q_ 82 (m_ 2),
 q_ 83 (.build (zs_ .u32 3) [(0, 1, (ck_ .u32 51))]),
 q_ 84 (.mkslice (zs_ .u32 3) 1 [(0, 83)]),
 ⟨(some 85), .callV 82 [(ck_ .u8 85), (ck_ .u32 55), 84], none⟩]
def x43_13 : L_ := [q_ 86 (m_ 2),
 q_ 87 (.build (zs_ .u32 3) [(0, 1, (ck_ .u32 52))]),
 q_ 88 (.mkslice (zs_ .u32 3) 1 [(0, 87)]),
 ⟨(some 89), .callV 86 [(ck_ .u8 85), (ck_ .u32 23), 88], none⟩]
def x43_14 : L_ := [q_ 90 (m_ 2),
 q_ 91 (.build (zs_ .u32 3) [(0, 1, (ck_ .u32 53))]),
 q_ 92 (.mkslice (zs_ .u32 3) 1 [(0, 91)]),
 ⟨(some 93), .callV 90 [(ck_ .u8 74), (ck_ .u32 111), 92], none⟩]
def x43_15 : L_ := [q_ 94 (m_ 2),
 q_ 95 (.build (zs_ .u32 3) [(0, 1, (ck_ .u32 54))]),
 q_ 96 (.mkslice (zs_ .u32 3) 1 [(0, 95)]),
 ⟨(some 97), .callV 94 [(ck_ .u8 73), (ck_ .u32 103), 96], none⟩]
def x43_16 : L_ := [q_ 98 (m_ 2),
 q_ 99 (.build (zs_ .u32 3) [(0, 1, (ck_ .u32 55))]),
 q_ 100 (.mkslice (zs_ .u32 3) 1 [(0, 99)]),
 ⟨(some 101), .callV 98 [(ck_ .u8 78), (ck_ .u32 115), 100], none⟩]
def x43_17 : L_ := [q_ 102 (.load .one 1 1),
 q_ 0 (m_ 102)]
def x43_27 : C_ := .seq (r_ x43_8) (.seq (r_ x43_9) (.seq (r_ x43_10) (.seq (r_ x43_11) (.seq (r_ x43_12) (.seq (r_ x43_13) (.seq (r_ x43_14) (.seq (r_ x43_15) (.seq (r_ x43_16) (.seq (r_ x43_17) .ret)))))))))
def x43_35 : C_ := .seq (r_ x43_0) (.seq (r_ x43_1) (.seq (r_ x43_2) (.seq (r_ x43_3) (.seq (r_ x43_4) (.seq (r_ x43_5) (.seq (r_ x43_6) (.seq (r_ x43_7) x43_27)))))))
def x43 : C_ := x43_35
theorem fx43 : fnx Try.prog 43 = some (103, [(0, none)], x43) := by kernel_rfl
def x44_0 : L_ := [q_ 2 (mi_ 0),
 q_ 3 (mi_ 0)]
def x44_1 : L_ := [q_ 4 (m_ 0)]
def x44_2 : L_ := [q_ 6 (.bin .eql 4 (ck_ .u8 73)),
 q_ 5 (m_ 6)]
def x44_3 : L_ := [q_ 7 (.bin .eql 4 (ck_ .u8 83)),
 q_ 5 (m_ 7)]
def x44_6 : L_ := [q_ 2 (.mv (ci_ (-2048))),
 q_ 3 (mi_ 2047)]
def x44_8 : L_ := [q_ 9 (.bin .eql 4 (ck_ .u8 84)),
 q_ 8 (m_ 9)]
def x44_9 : L_ := [q_ 2 (mi_ 0),
 q_ 3 (mi_ 63)]
def x44_11 : L_ := [q_ 11 (.bin .eql 4 (ck_ .u8 66)),
 q_ 10 (m_ 11)]
def x44_12 : L_ := [q_ 2 (.mv (ci_ (-4096))),
 q_ 3 (mi_ 4094)]
def x44_14 : L_ := [q_ 13 (.bin .eql 4 (ck_ .u8 85)),
 q_ 12 (m_ 13)]
def x44_15 : L_ := [q_ 2 (.mv (ci_ (-524288))),
 q_ 3 (mi_ 524287)]
def x44_17 : L_ := [q_ 15 (.bin .eql 4 (ck_ .u8 74)),
 q_ 14 (m_ 15)]
def x44_18 : L_ := [q_ 2 (.mv (ci_ (-1048576))),
 q_ 3 (mi_ 1048574)]
def x44_28 : C_ := .cnd 5 (.seq (r_ x44_6) .ret) (.seq (r_ x44_8) (.cnd 8 (.seq (r_ x44_9) .ret) (.seq (r_ x44_11) (.cnd 10 (.seq (r_ x44_12) .ret) (.seq (r_ x44_14) (.cnd 12 (.seq (r_ x44_15) .ret) (.seq (r_ x44_17) (.cnd 14 (.seq (r_ x44_18) .ret) .skip))))))))
def x44_32 : L_ := [q_ 2 (mi_ 1),
 q_ 3 (mi_ 0)]
def x44_35 : C_ := .seq (r_ x44_0) (.seq (.seq (r_ x44_1) (.block 0 (.seq (.seq (r_ x44_2) (.cnd 5 .skip (r_ x44_3))) x44_28))) (.seq (r_ x44_32) .ret))
def x44 : C_ := x44_35
theorem fx44 : fnx Try.prog 44 = some (16, [(2, none), (3, none)], x44) := by kernel_rfl
def x45_0 : L_ := [q_ 2 (.new [(.bool false), (.bool false), (.bool false)])]
def x45_1 : L_ := [q_ 3 (m_ 0)]
def x45_2 : L_ := [q_ 5 (.bin .eql 3 (ck_ .u8 82)),
 q_ 4 (m_ 5)]
def x45_3 : L_ := [q_ 6 (.build [(.bool false), (.bool false), (.bool false)] [(0, 1, bt_), (1, 1, bt_), (2, 1, bt_)]),
 on_ (.store 3 2 6)]
def x45_5 : L_ := [q_ 8 (.bin .eql 3 (ck_ .u8 73)),
 q_ 7 (m_ 8)]
def x45_6 : L_ := [q_ 9 (.bin .eql 3 (ck_ .u8 84)),
 q_ 7 (m_ 9)]
def x45_9 : L_ := [q_ 10 (.build [(.bool false), (.bool false), (.bool false)] [(0, 1, bt_), (1, 1, bt_), (2, 1, bf_)]),
 on_ (.store 3 2 10)]
def x45_11 : L_ := [q_ 12 (.bin .eql 3 (ck_ .u8 83)),
 q_ 11 (m_ 12)]
def x45_12 : L_ := [q_ 13 (.bin .eql 3 (ck_ .u8 66)),
 q_ 11 (m_ 13)]
def x45_15 : L_ := [q_ 14 (.build [(.bool false), (.bool false), (.bool false)] [(0, 1, bf_), (1, 1, bt_), (2, 1, bt_)]),
 on_ (.store 3 2 14)]
def x45_17 : L_ := [q_ 16 (.bin .eql 3 (ck_ .u8 85)),
 q_ 15 (m_ 16)]
def x45_18 : L_ := [q_ 17 (.bin .eql 3 (ck_ .u8 74)),
 q_ 15 (m_ 17)]
def x45_21 : L_ := [q_ 18 (.build [(.bool false), (.bool false), (.bool false)] [(0, 1, bt_), (1, 1, bf_), (2, 1, bf_)]),
 on_ (.store 3 2 18)]
def x45_31 : C_ := .block 0 (.seq (r_ x45_2) (.cnd 4 (.seq (r_ x45_3) .ret) (.seq (.seq (r_ x45_5) (.cnd 7 .skip (r_ x45_6))) (.cnd 7 (.seq (r_ x45_9) .ret) (.seq (.seq (r_ x45_11) (.cnd 11 .skip (r_ x45_12))) (.cnd 11 (.seq (r_ x45_15) .ret) (.seq (.seq (r_ x45_17) (.cnd 15 .skip (r_ x45_18))) (.cnd 15 (.seq (r_ x45_21) .ret) .skip))))))))
def x45_33 : L_ := [q_ 19 (.build [(.bool false), (.bool false), (.bool false)] []),
 on_ (.store 3 2 19)]
def x45_36 : C_ := .seq (r_ x45_0) (.seq (.seq (r_ x45_1) x45_31) (.seq (r_ x45_33) .ret))
def x45 : C_ := x45_36
theorem fx45 : fnx Try.prog 45 = some (20, [(2, (some (.agg, 3)))], x45) := by kernel_rfl
def x46_0 : L_ := [q_ 2 (.mv (.const (.slice none 0 0)))]
def x46_1 : L_ := [q_ 3 (m_ 0)]
def x46_2 : L_ := [q_ 5 (.bin .eql 3 (ck_ .u8 73)),
 q_ 4 (m_ 5)]
def x46_3 : L_ := [q_ 6 (.build (zs_ .u64 3) [(0, 1, (ck_ .u64 0)), (1, 1, (ck_ .u64 12)), (2, 1, (ck_ .u64 20))]),
 q_ 7 (.mkslice (zs_ .u64 3) 1 [(0, 6)]),
 q_ 2 (m_ 7)]
def x46_5 : L_ := [q_ 9 (.bin .eql 3 (ck_ .u8 84)),
 q_ 8 (m_ 9)]
def x46_6 : L_ := [q_ 10 (.build (zs_ .u64 3) [(0, 1, (ck_ .u64 0)), (1, 1, (ck_ .u64 6)), (2, 1, (ck_ .u64 20))]),
 q_ 11 (.mkslice (zs_ .u64 3) 1 [(0, 10)]),
 q_ 2 (m_ 11)]
def x46_8 : L_ := [q_ 13 (.bin .eql 3 (ck_ .u8 83)),
 q_ 12 (m_ 13)]
def x46_9 : L_ := [q_ 14 (.build (zs_ .u64 3) [(0, 1, (ck_ .u64 0)), (1, 1, (ck_ .u64 5)), (2, 1, (ck_ .u64 7))]),
 q_ 15 (.build (zs_ .u64 3) [(0, 1, (ck_ .u64 5)), (1, 1, (ck_ .u64 7)), (2, 1, (ck_ .u64 25))]),
 q_ 16 (.mkslice (zs_ .u64 3) 2 [(0, 14), (1, 15)]),
 q_ 2 (m_ 16)]
def x46_11 : L_ := [q_ 18 (.bin .eql 3 (ck_ .u8 66)),
 q_ 17 (m_ 18)]
def x46_12 : L_ := [q_ 19 (.build (zs_ .u64 3) [(0, 1, (ck_ .u64 11)), (1, 1, (ck_ .u64 1)), (2, 1, (ck_ .u64 7))]),
 q_ 20 (.build (zs_ .u64 3) [(0, 1, (ck_ .u64 1)), (1, 1, (ck_ .u64 4)), (2, 1, (ck_ .u64 8))]),
 q_ 21 (.build (zs_ .u64 3) [(0, 1, (ck_ .u64 5)), (1, 1, (ck_ .u64 6)), (2, 1, (ck_ .u64 25))]),
 q_ 22 (.build (zs_ .u64 3) [(0, 1, (ck_ .u64 12)), (1, 1, (ck_ .u64 1)), (2, 1, (ck_ .u64 31))]),
 q_ 23 (.mkslice (zs_ .u64 3) 4 [(0, 19), (1, 20), (2, 21), (3, 22)]),
 q_ 2 (m_ 23)]
def x46_14 : L_ := [q_ 25 (.bin .eql 3 (ck_ .u8 85)),
 q_ 24 (m_ 25)]
def x46_15 : L_ := [q_ 26 (.build (zs_ .u64 3) [(0, 1, (ck_ .u64 0)), (1, 1, (ck_ .u64 20)), (2, 1, (ck_ .u64 12))]),
 q_ 27 (.mkslice (zs_ .u64 3) 1 [(0, 26)]),
 q_ 2 (m_ 27)]
def x46_17 : L_ := [q_ 29 (.bin .eql 3 (ck_ .u8 74)),
 q_ 28 (m_ 29)]
def x46_18 : L_ := [q_ 30 (.build (zs_ .u64 3) [(0, 1, (ck_ .u64 12)), (1, 1, (ck_ .u64 8)), (2, 1, (ck_ .u64 12))]),
 q_ 31 (.build (zs_ .u64 3) [(0, 1, (ck_ .u64 11)), (1, 1, (ck_ .u64 1)), (2, 1, (ck_ .u64 20))]),
 q_ 32 (.build (zs_ .u64 3) [(0, 1, (ck_ .u64 1)), (1, 1, (ck_ .u64 10)), (2, 1, (ck_ .u64 21))]),
 q_ 33 (.build (zs_ .u64 3) [(0, 1, (ck_ .u64 20)), (1, 1, (ck_ .u64 1)), (2, 1, (ck_ .u64 31))]),
 q_ 34 (.mkslice (zs_ .u64 3) 4 [(0, 30), (1, 31), (2, 32), (3, 33)]),
 q_ 2 (m_ 34)]
def x46_28 : C_ := .cnd 8 (.seq (r_ x46_6) .ret) (.seq (r_ x46_8) (.cnd 12 (.seq (r_ x46_9) .ret) (.seq (r_ x46_11) (.cnd 17 (.seq (r_ x46_12) .ret) (.seq (r_ x46_14) (.cnd 24 (.seq (r_ x46_15) .ret) (.seq (r_ x46_17) (.cnd 28 (.seq (r_ x46_18) .ret) .skip))))))))
def x46_34 : L_ := [q_ 2 (.mv (.const (.slice none 0 0)))]
def x46_37 : C_ := .seq (r_ x46_0) (.seq (.seq (r_ x46_1) (.block 0 (.seq (r_ x46_2) (.cnd 4 (.seq (r_ x46_3) .ret) (.seq (r_ x46_5) x46_28))))) (.seq (r_ x46_34) .ret))
def x46 : C_ := x46_37
theorem fx46 : fnx Try.prog 46 = some (35, [(2, none)], x46) := by kernel_rfl
def x48_0 : L_ := [q_ 8 (.new [(.int .i64 0), (.int .u8 0), (.int .i64 0), (.slice none 0 0), (.int .i64 0), (.int .i64 0)]),
 q_ 9 (.mv (.const (.slice none 0 0)))]
def x48_1 : L_ := [q_ 12 (m_ 0),
 q_ 13 (m_ 1),
 q_ 14 (m_ 3),
 q_ 15 (.build [(.pointer none), (.slice none 0 0), (.slice none 0 0), (.int .i64 0), (.bool false), (.slice none 0 0)] [(0, 1, 12), (1, 1, 13), (4, 1, 14)]),
 q_ 16 (.box 15),
 q_ 10 (m_ 16)]
def x48_2 : L_ := [q_ 11 (mi_ 0)]
def x48_3 : L_ := [q_ 17 (m_ 11),
 q_ 18 (m_ 2),
 q_ 19 (.bin .lss 17 18),
 q_ 20 (m_ 19),
 og_ 21 20 true (m_ 0),
 og_ 22 20 true (.nilck 21),
 og_ 23 20 true (.faddr 34 22),
 og_ 24 20 true (.load (.int .i64) 1 23),
 og_ 25 20 true (.bin .eql 24 (ci_ 0)),
 ⟨(some 26), .pick 20 25 bf_, none⟩]
def x48_5 : C_ := .seq (r_ x48_3) (.cnd 26 .skip (.exit 0))
def x48_6 : L_ := [q_ 27 (m_ 10),
 oc_ 28 61 [27],
 q_ 29 (.un .not 28)]
def x48_7 : L_ := [q_ 30 (m_ 0),
 q_ 31 (.nilck 30),
 q_ 32 (.faddr 34 31),
 on_ (.store 1 32 (ci_ 4))]
def x48_11 : L_ := [q_ 33 (m_ 11),
 q_ 34 (.bin .add 33 (ci_ 1)),
 q_ 11 (m_ 34)]
def x48_13 : C_ := .block 1 (.seq (.seq (r_ x48_6) (.cnd 29 (.seq (r_ x48_7) (.exit 0)) .skip)) (r_ x48_11))
def x48_14 : C_ := .seq x48_5 x48_13
def x48_17 : L_ := [q_ 35 (m_ 0),
 q_ 36 (.nilck 35),
 q_ 37 (.faddr 34 36),
 q_ 38 (.load (.int .i64) 1 37),
 q_ 39 (m_ 0),
 q_ 40 (.nilck 39),
 q_ 41 (.faddr 35 40),
 q_ 42 (.load (.int .u8) 1 41),
 q_ 43 (m_ 10),
 q_ 44 (.nilck 43),
 q_ 45 (.faddr 2 44),
 q_ 46 (.load .one 1 45),
 q_ 47 (m_ 11),
 q_ 48 (m_ 10),
 q_ 49 (.nilck 48),
 q_ 50 (.faddr 3 49),
 q_ 51 (.load (.int .i64) 1 50),
 q_ 52 (.build [(.int .i64 0), (.int .u8 0), (.int .i64 0), (.slice none 0 0), (.int .i64 0), (.int .i64 0)] [(0, 1, 38), (1, 1, 42), (3, 1, 46), (4, 1, 47), (5, 1, 51)]),
 q_ 53 (m_ 10),
 q_ 54 (.nilck 53),
 q_ 55 (.faddr 5 54),
 q_ 56 (.load .one 1 55),
 on_ (.store 6 8 52),
 q_ 9 (m_ 56)]
def x48_18 : C_ := .seq (.draw x48_17 [[], [0], [0, 1], [0, 1, 2], [], [4], [4, 5], [4, 5, 6], [], [8], [8, 9], [8, 9, 10], [], [], [13], [13, 14], [13, 14, 15], [0, 1, 2, 3, 4, 5, 6, 7, 8, 9, 10, 11, 12, 13, 14, 15, 16], [], [18], [18, 19], [18, 19, 20], [0, 1, 2, 3, 4, 5, 6, 7, 8, 9, 10, 11, 12, 13, 14, 15, 16, 17], [0, 1, 2, 3, 4, 5, 6, 7, 8, 9, 10, 11, 12, 13, 14, 15, 16, 17, 18, 19, 20, 21, 22]]) .ret
def x48_22 : C_ := .seq (r_ x48_0) (.seq (r_ x48_1) (.seq (r_ x48_2) (.seq (.block 0 (.loop x48_14)) x48_18)))
def x48 : C_ := x48_22
theorem fx48 : fnx Try.prog 48 = some (57, [(8, (some (.agg, 6))), (9, none)], x48) := by kernel_rfl
def x51_0 : L_ := [q_ 1 (.box 0),
 q_ 2 (.mv bf_)]
def x51_1 : L_ := [q_ 5 (.faddr 0 1),
 q_ 6 (.load .str 1 5),
 q_ 7 (.bin .neq 6 (.const se_))]
def x51_2 : L_ := [q_ 8 (.faddr 1 1),
 q_ 9 (.load .agg 5 8),
 q_ 10 (.build (zs_ .i64 5) []),
 q_ 11 (.eqagg false [0, 0, 0, 0, 0] 9 10),
 q_ 12 (m_ 11),
 og_ 13 12 true (.faddr 6 1),
 og_ 14 12 true (.load .str 1 13),
 og_ 15 12 true (.bin .eql 14 (.const se_)),
 ⟨(some 16), .pick 12 15 bf_, none⟩,
 q_ 17 (m_ 16),
 og_ 18 17 true (.faddr 7 1),
 og_ 19 17 true (.load (.int .i64) 1 18),
 og_ 20 17 true (.bin .eql 19 (ci_ 0)),
 ⟨(some 21), .pick 17 20 bf_, none⟩,
 q_ 2 (m_ 21)]
def x51_6 : L_ := [q_ 23 (.faddr 1 1),
 q_ 24 (.load .agg 5 23),
 oc_ 25 18 [24],
 q_ 22 (m_ 25),
 q_ 26 (.ext 22 0),
 q_ 27 (.ext 22 1),
 q_ 3 (m_ 26),
 q_ 4 (m_ 27)]
def x51_7 : L_ := [q_ 28 (m_ 4),
 q_ 29 (.bin .neq 28 (ci_ 0))]
def x51_8 : L_ := [q_ 2 (.mv bf_)]
def x51_13 : L_ := [q_ 31 (.faddr 6 1),
 q_ 32 (.load .str 1 31),
 q_ 33 (.bin .eql 32 (.const se_)),
 q_ 30 (m_ 33)]
def x51_14 : L_ := [q_ 34 (.faddr 7 1),
 q_ 35 (.load (.int .i64) 1 34),
 q_ 36 (.bin .eql 35 (ci_ 0)),
 q_ 2 (m_ 36)]
def x51_16 : L_ := [q_ 38 (.faddr 1 1),
 q_ 39 (.faddr 0 38),
 q_ 40 (.load (.int .i64) 1 39),
 oc_ 41 52 [40],
 q_ 42 (m_ 41),
 og_ 43 42 false (.faddr 1 1),
 og_ 44 42 false (.faddr 0 43),
 og_ 45 42 false (.load (.int .i64) 1 44),
 og_ 46 42 false (.bin .eql 45 (ci_ 53)),
 ⟨(some 47), .pick 42 bt_ 46, none⟩,
 q_ 37 (m_ 47)]
def x51_17 : L_ := [q_ 48 (.faddr 7 1),
 q_ 49 (.load (.int .i64) 1 48),
 q_ 50 (.bin .eql 49 (ci_ 0)),
 q_ 51 (m_ 50),
 og_ 52 51 true (.faddr 1 1),
 og_ 53 51 true (.faddr 4 52),
 og_ 54 51 true (.load (.int .i64) 1 53),
 og_ 55 51 true (.bin .eql 54 (ci_ 0)),
 ⟨(some 56), .pick 51 55 bf_, none⟩,
 q_ 2 (m_ 56)]
def x51_19 : L_ := [q_ 58 (.faddr 1 1),
 q_ 59 (.faddr 0 58),
 q_ 60 (.load (.int .i64) 1 59),
 q_ 61 (.bin .eql 60 (ci_ 51)),
 q_ 57 (m_ 61)]
def x51_20 : L_ := [q_ 62 (.faddr 7 1),
 q_ 63 (.load (.int .i64) 1 62),
 q_ 64 (.bin .eql 63 (ci_ 1)),
 q_ 65 (m_ 64),
 og_ 66 65 true (.faddr 1 1),
 og_ 67 65 true (.faddr 4 66),
 og_ 68 65 true (.load (.int .i64) 1 67),
 og_ 69 65 true (.bin .eql 68 (ci_ 0)),
 ⟨(some 70), .pick 65 69 bf_, none⟩,
 q_ 2 (m_ 70)]
def x51_22 : L_ := [q_ 72 (.faddr 1 1),
 q_ 73 (.faddr 0 72),
 q_ 74 (.load (.int .i64) 1 73),
 q_ 75 (.bin .eql 74 (ci_ 28)),
 q_ 71 (m_ 75)]
def x51_23 : L_ := [q_ 76 (.faddr 7 1),
 q_ 77 (.load (.int .i64) 1 76),
 q_ 78 (.bin .eql 77 (ci_ 2)),
 q_ 79 (m_ 78),
 og_ 80 79 true (.faddr 1 1),
 og_ 81 79 true (.faddr 4 80),
 og_ 82 79 true (.load (.int .i64) 1 81),
 og_ 83 79 true (.bin .eql 82 (ci_ 0)),
 ⟨(some 84), .pick 79 83 bf_, none⟩,
 q_ 2 (m_ 84)]
def x51_33 : C_ := .block 0 (.seq (r_ x51_13) (.cnd 30 (.seq (r_ x51_14) .ret) (.seq (r_ x51_16) (.cnd 37 (.seq (r_ x51_17) .ret) (.seq (r_ x51_19) (.cnd 57 (.seq (r_ x51_20) .ret) (.seq (r_ x51_22) (.cnd 71 (.seq (r_ x51_23) .ret) .skip))))))))
def x51_34 : L_ := [q_ 2 (.mv bf_)]
def x51_39 : C_ := .seq (r_ x51_0) (.seq (.seq (r_ x51_1) (.cnd 7 (.seq (r_ x51_2) .ret) .skip)) (.seq (.seq (r_ x51_6) (.seq (r_ x51_7) (.cnd 29 (.seq (r_ x51_8) .ret) .skip))) (.seq x51_33 (.seq (r_ x51_34) .ret))))
def x51 : C_ := x51_39
theorem fx51 : fnx Try.prog 51 = some (85, [(2, none)], x51) := by kernel_rfl
def x52_0 : L_ := [q_ 2 (.mv bf_)]
def x52_1 : L_ := [q_ 3 (m_ 0),
 q_ 4 (.bin .geq 3 (ci_ 45)),
 q_ 5 (m_ 4),
 og_ 6 5 true (m_ 0),
 og_ 7 5 true (.bin .leq 6 (ci_ 50)),
 ⟨(some 8), .pick 5 7 bf_, none⟩,
 q_ 2 (m_ 8)]
def x52_3 : C_ := .seq (r_ x52_0) (.seq (r_ x52_1) .ret)
def x52 : C_ := x52_3
theorem fx52 : fnx Try.prog 52 = some (9, [(2, none)], x52) := by kernel_rfl
def x53_0 : L_ := [q_ 4 (.mv bf_)]
def x53_1 : L_ := [q_ 8 (m_ 0),
 oc_ 9 71 [8],
 q_ 7 (m_ 9),
 q_ 10 (.ext 7 0),
 q_ 11 (.ext 7 1),
 q_ 5 (m_ 10),
 q_ 6 (m_ 11)]
def x53_2 : L_ := [q_ 12 (m_ 1),
 q_ 13 (m_ 5),
 q_ 14 (.bin .geq 12 13),
 q_ 15 (m_ 14),
 og_ 16 15 true (m_ 1),
 og_ 17 15 true (m_ 6),
 og_ 18 15 true (.bin .leq 16 17),
 ⟨(some 19), .pick 15 18 bf_, none⟩,
 q_ 4 (m_ 19)]
def x53_5 : C_ := .seq (r_ x53_0) (.seq (r_ x53_1) (.seq (r_ x53_2) .ret))
def x53 : C_ := x53_5
theorem fx53 : fnx Try.prog 53 = some (20, [(4, none)], x53) := by kernel_rfl
def x54_0 : L_ := [q_ 2 (mi_ 0)]
def x54_1 : L_ := [q_ 3 (m_ 0),
 q_ 4 (m_ 0),
 oc_ 5 55 [4],
 q_ 6 (.bin .sub 3 5),
 q_ 7 (.bin .shr 6 (ck_ .u64 12)),
 q_ 2 (m_ 7)]
def x54_3 : C_ := .seq (r_ x54_0) (.seq (r_ x54_1) .ret)
def x54 : C_ := x54_3
theorem fx54 : fnx Try.prog 54 = some (8, [(2, none)], x54) := by kernel_rfl
def x55_0 : L_ := [q_ 2 (mi_ 0)]
def x55_1 : L_ := [q_ 3 (m_ 0),
 q_ 4 (.bin .and 3 (ci_ 4095)),
 q_ 5 (.bin .xor 4 (ci_ 2048)),
 q_ 6 (.bin .sub 5 (ci_ 2048)),
 q_ 2 (m_ 6)]
def x55_3 : C_ := .seq (r_ x55_0) (.seq (r_ x55_1) .ret)
def x55 : C_ := x55_3
theorem fx55 : fnx Try.prog 55 = some (7, [(2, none)], x55) := by kernel_rfl
def x56_0 : L_ := [q_ 2 (mi_ 0)]
def x56_1 : L_ := [q_ 3 (m_ 0),
 q_ 4 (.bin .sub 3 (ci_ 45)),
 q_ 5 (.bin .xor 4 (ci_ 1)),
 q_ 6 (.bin .add 5 (ci_ 45)),
 q_ 2 (m_ 6)]
def x56_3 : C_ := .seq (r_ x56_0) (.seq (r_ x56_1) .ret)
def x56 : C_ := x56_3
theorem fx56 : fnx Try.prog 56 = some (7, [(2, none)], x56) := by kernel_rfl
def x57_0 : L_ := [q_ 9 (m_ 2),
 q_ 10 (.lenS 9),
 q_ 11 (mi_ 0)]
def x57_1 : L_ := [q_ 12 (.bin .lss 11 10)]
def x57_3 : L_ := [q_ 13 (.iaddrS 3 9 11),
 q_ 14 (.load .agg 3 13),
 q_ 8 (.new (zs_ .u32 3)),
 on_ (.store 3 8 14)]
def x57_4 : L_ := [q_ 15 (.load .one 1 3),
 q_ 16 (.iaddrA false 3 1 8 (ci_ 0)),
 q_ 17 (.load (.int .u32) 1 16),
 q_ 18 (.conv .i64 17),
 q_ 19 (m_ 0),
 q_ 20 (m_ 1),
 q_ 21 (.iaddrA false 3 1 8 (ci_ 1)),
 q_ 22 (.load (.int .u32) 1 21),
 q_ 23 (.iaddrA false 3 1 8 (ci_ 2)),
 q_ 24 (.load (.int .u32) 1 23),
 q_ 25 (.build (zs_ .u32 3) [(0, 1, 20), (1, 1, 22), (2, 1, 24)]),
 q_ 26 (.build [(.int .u8 0), (.int .u32 0), (.int .u32 0), (.int .u32 0)] [(0, 1, 19), (1, 3, 25)]),
 on_ (.mapupd 3 104 (.int .i64) 15 18 26)]
def x57_7 : L_ := [q_ 27 (.bin .add 11 (ci_ 1)),
 q_ 11 (m_ 27)]
def x57_13 : C_ := .seq (r_ x57_0) (.block 0 (.loop (.seq (r_ x57_1) (.seq (.cnd 12 .skip (.exit 0)) (.seq (.block 1 (.seq (r_ x57_3) (r_ x57_4))) (r_ x57_7))))))
def x57 : C_ := x57_13
theorem fx57 : fnx Try.prog 57 = some (28, [], x57) := by kernel_rfl
def x61_0 : L_ := [q_ 2 (.mv bf_)]
def x61_1 : L_ := [q_ 10 (m_ 0),
 q_ 11 (.nilck 10),
 q_ 12 (.faddr 0 11),
 q_ 13 (.load .one 1 12),
 oc_ 14 72 [13],
 q_ 9 (m_ 14),
 q_ 15 (.ext 9 0),
 q_ 16 (.ext 9 1),
 q_ 3 (.new (zs_ .i64 5)),
 on_ (.store 5 3 15),
 q_ 4 (m_ 16)]
def x61_2 : L_ := [q_ 17 (m_ 4),
 q_ 18 (.un .not 17)]
def x61_3 : L_ := [q_ 2 (.mv bf_)]
def x61_7 : L_ := [q_ 19 (m_ 0),
 q_ 20 (.nilck 19),
 q_ 21 (.faddr 0 20),
 q_ 22 (.load .one 1 21),
 q_ 23 (.faddr 2 3),
 q_ 24 (.load (.int .i64) 1 23),
 q_ 25 (.nilck 22),
 q_ 26 (.faddr 1 25),
 q_ 27 (.iaddrA true 32 1 26 24),
 q_ 28 (.load (.int .u64) 1 27),
 q_ 29 (.faddr 4 3),
 q_ 30 (.load (.int .i64) 1 29),
 oc_ 31 73 [30],
 q_ 5 (m_ 28),
 q_ 6 (m_ 31)]
def x61_8 : L_ := [q_ 32 (m_ 0),
 q_ 33 (.nilck 32),
 q_ 34 (.faddr 0 33),
 q_ 35 (.load .one 1 34),
 q_ 36 (.nilck 35),
 q_ 37 (.faddr 33 36),
 q_ 38 (.load (.int .u64) 1 37),
 q_ 39 (.bin .add 38 (ck_ .u64 4)),
 q_ 7 (m_ 39)]
def x61_9 : L_ := [q_ 40 (.faddr 0 3),
 q_ 41 (.load (.int .i64) 1 40),
 q_ 8 (m_ 41)]
def x61_10 : L_ := [q_ 45 (m_ 8),
 q_ 46 (.bin .leq 45 (ci_ 27)),
 q_ 44 (m_ 46)]
def x61_11 : L_ := [q_ 48 (m_ 0),
 q_ 49 (.nilck 48),
 q_ 50 (.faddr 0 49),
 q_ 51 (.load .one 1 50),
 q_ 52 (.faddr 1 3),
 q_ 53 (.load (.int .i64) 1 52),
 q_ 54 (m_ 8),
 q_ 55 (m_ 5),
 q_ 56 (m_ 0),
 q_ 57 (.nilck 56),
 q_ 58 (.faddr 0 57),
 q_ 59 (.load .one 1 58),
 q_ 60 (.faddr 3 3),
 q_ 61 (.load (.int .i64) 1 60),
 q_ 62 (.nilck 59),
 q_ 63 (.faddr 1 62),
 q_ 64 (.iaddrA true 32 1 63 61),
 q_ 65 (.load (.int .u64) 1 64),
 oc_ 66 74 [54, 55, 65],
 q_ 47 (m_ 66),
 q_ 67 (.ext 47 0),
 q_ 68 (.ext 47 1),
 q_ 69 (.nilck 51),
 q_ 70 (.faddr 1 69),
 q_ 71 (.iaddrA true 32 1 70 53),
 on_ (.store 1 71 67)]
def x61_12 : L_ := [q_ 73 (m_ 8),
 q_ 74 (.bin .leq 73 (ci_ 37)),
 q_ 72 (m_ 74)]
def x61_13 : L_ := [q_ 75 (.load .agg 5 3),
 q_ 76 (.build (zs_ .i64 5) [(0, 1, (ci_ 28)), (4, 1, (ci_ 1))]),
 q_ 77 (.eqagg false [0, 0, 0, 0, 0] 75 76)]
def x61_14 : L_ := [q_ 78 (m_ 0),
 q_ 79 (.nilck 78),
 q_ 80 (.faddr 3 79),
 q_ 81 (.load (.int .i64) 1 80),
 q_ 82 (.bin .add 81 (ci_ 1)),
 q_ 83 (.nilck 78),
 q_ 84 (.faddr 3 83),
 on_ (.store 1 84 82)]
def x61_17 : L_ := [q_ 86 (m_ 0),
 q_ 87 (.nilck 86),
 q_ 88 (.faddr 0 87),
 q_ 89 (.load .one 1 88),
 q_ 90 (.faddr 1 3),
 q_ 91 (.load (.int .i64) 1 90),
 q_ 92 (m_ 8),
 oc_ 93 75 [92],
 q_ 94 (m_ 5),
 q_ 95 (m_ 6),
 oc_ 96 74 [93, 94, 95],
 q_ 85 (m_ 96),
 q_ 97 (.ext 85 0),
 q_ 98 (.ext 85 1),
 q_ 99 (.nilck 89),
 q_ 100 (.faddr 1 99),
 q_ 101 (.iaddrA true 32 1 100 91),
 on_ (.store 1 101 97)]
def x61_19 : L_ := [q_ 103 (m_ 8),
 q_ 104 (.bin .leq 103 (ci_ 44)),
 q_ 102 (m_ 104)]
def x61_20 : L_ := [q_ 105 (m_ 0),
 q_ 106 (.load .agg 5 3),
 oc_ 107 76 [105, 106],
 q_ 4 (m_ 107)]
def x61_21 : L_ := [q_ 109 (m_ 8),
 q_ 110 (.bin .leq 109 (ci_ 50)),
 q_ 108 (m_ 110)]
def x61_22 : L_ := [q_ 111 (m_ 8),
 q_ 112 (m_ 5),
 q_ 113 (m_ 0),
 q_ 114 (.nilck 113),
 q_ 115 (.faddr 0 114),
 q_ 116 (.load .one 1 115),
 q_ 117 (.faddr 3 3),
 q_ 118 (.load (.int .i64) 1 117),
 q_ 119 (.nilck 116),
 q_ 120 (.faddr 1 119),
 q_ 121 (.iaddrA true 32 1 120 118),
 q_ 122 (.load (.int .u64) 1 121),
 oc_ 123 77 [111, 112, 122]]
def x61_23 : L_ := [q_ 124 (m_ 0),
 q_ 125 (.nilck 124),
 q_ 126 (.faddr 0 125),
 q_ 127 (.load .one 1 126),
 q_ 128 (.nilck 127),
 q_ 129 (.faddr 33 128),
 q_ 130 (.load (.int .u64) 1 129),
 q_ 131 (m_ 6),
 q_ 132 (.bin .add 130 131),
 q_ 7 (m_ 132)]
def x61_26 : L_ := [q_ 134 (m_ 8),
 q_ 135 (.bin .eql 134 (ci_ 51)),
 q_ 133 (m_ 135)]
def x61_27 : L_ := [q_ 136 (m_ 0),
 q_ 137 (.nilck 136),
 q_ 138 (.faddr 0 137),
 q_ 139 (.load .one 1 138),
 q_ 140 (.faddr 1 3),
 q_ 141 (.load (.int .i64) 1 140),
 q_ 142 (m_ 6),
 q_ 143 (.bin .shl 142 (ck_ .u64 12)),
 q_ 144 (.nilck 139),
 q_ 145 (.faddr 1 144),
 q_ 146 (.iaddrA true 32 1 145 141),
 on_ (.store 1 146 143)]
def x61_28 : L_ := [q_ 148 (m_ 8),
 q_ 149 (.bin .eql 148 (ci_ 52)),
 q_ 147 (m_ 149)]
def x61_29 : L_ := [q_ 150 (m_ 0),
 q_ 151 (.nilck 150),
 q_ 152 (.faddr 0 151),
 q_ 153 (.load .one 1 152),
 q_ 154 (.faddr 1 3),
 q_ 155 (.load (.int .i64) 1 154),
 q_ 156 (m_ 6),
 q_ 157 (.bin .shl 156 (ck_ .u64 12)),
 q_ 158 (m_ 0),
 q_ 159 (.nilck 158),
 q_ 160 (.faddr 0 159),
 q_ 161 (.load .one 1 160),
 q_ 162 (.nilck 161),
 q_ 163 (.faddr 33 162),
 q_ 164 (.load (.int .u64) 1 163),
 q_ 165 (.bin .add 157 164),
 q_ 166 (.nilck 153),
 q_ 167 (.faddr 1 166),
 q_ 168 (.iaddrA true 32 1 167 155),
 on_ (.store 1 168 165)]
def x61_30 : L_ := [q_ 170 (m_ 8),
 q_ 171 (.bin .eql 170 (ci_ 53)),
 q_ 169 (m_ 171)]
def x61_31 : L_ := [q_ 172 (m_ 0),
 q_ 173 (.nilck 172),
 q_ 174 (.faddr 0 173),
 q_ 175 (.load .one 1 174),
 q_ 176 (.faddr 1 3),
 q_ 177 (.load (.int .i64) 1 176),
 q_ 178 (m_ 7),
 q_ 179 (m_ 0),
 q_ 180 (.nilck 179),
 q_ 181 (.faddr 0 180),
 q_ 182 (.load .one 1 181),
 q_ 183 (.nilck 182),
 q_ 184 (.faddr 33 183),
 q_ 185 (.load (.int .u64) 1 184),
 q_ 186 (m_ 6),
 q_ 187 (.bin .add 185 186),
 q_ 188 (.nilck 175),
 q_ 189 (.faddr 1 188),
 q_ 190 (.iaddrA true 32 1 189 177),
 on_ (.store 1 190 178),
 q_ 7 (m_ 187)]
def x61_32 : L_ := [q_ 192 (m_ 8),
 q_ 193 (.bin .eql 192 (ci_ 54)),
 q_ 191 (m_ 193)]
def x61_33 : L_ := [q_ 194 (m_ 0),
 q_ 195 (.nilck 194),
 q_ 196 (.faddr 0 195),
 q_ 197 (.load .one 1 196),
 q_ 198 (.faddr 1 3),
 q_ 199 (.load (.int .i64) 1 198),
 q_ 200 (m_ 7),
 q_ 201 (m_ 5),
 q_ 202 (m_ 6),
 q_ 203 (.bin .add 201 202),
 q_ 204 (.bin .andNot 203 (ck_ .u64 1)),
 q_ 205 (.nilck 197),
 q_ 206 (.faddr 1 205),
 q_ 207 (.iaddrA true 32 1 206 199),
 on_ (.store 1 207 200),
 q_ 7 (m_ 204)]
def x61_34 : L_ := [q_ 42 (m_ 0),
 oc_ 43 78 [42],
 q_ 4 (m_ 43)]
def x61_44 : C_ := .seq (r_ x61_21) (.cnd 108 (.seq (.draw x61_22 [[], [], [], [2], [2, 3], [2, 3, 4], [], [6], [2, 3, 4, 5], [2, 3, 4, 5, 8], [2, 3, 4, 5, 6, 7, 8, 9], [2, 3, 4, 5, 6, 7, 8, 9, 10], [0, 1, 2, 3, 4, 5, 6, 7, 8, 9, 10, 11]]) (.cnd 123 (r_ x61_23) .skip)) (.seq (r_ x61_26) (.cnd 133 (.draw x61_27 [[], [0], [0, 1], [0, 1, 2], [], [4], [], [6], [0, 1, 2, 3], [0, 1, 2, 3, 8], [0, 1, 2, 3, 4, 5, 6, 7, 8, 9], [0, 1, 2, 3, 4, 5, 6, 7, 8, 9, 10]]) (.seq (r_ x61_28) (.cnd 147 (.draw x61_29 [[], [0], [0, 1], [0, 1, 2], [], [4], [], [6], [], [8], [8, 9], [8, 9, 10], [8, 9, 10, 11], [8, 9, 10, 11, 12], [8, 9, 10, 11, 12, 13], [6, 7, 8, 9, 10, 11, 12, 13, 14], [0, 1, 2, 3], [0, 1, 2, 3, 16], [0, 1, 2, 3, 4, 5, 6, 7, 8, 9, 10, 11, 12, 13, 14, 15, 16, 17], [0, 1, 2, 3, 4, 5, 6, 7, 8, 9, 10, 11, 12, 13, 14, 15, 16, 17, 18]]) (.seq (r_ x61_30) (.cnd 169 (.draw x61_31 [[], [0], [0, 1], [0, 1, 2], [], [4], [], [], [7], [7, 8], [7, 8, 9], [7, 8, 9, 10], [7, 8, 9, 10, 11], [7, 8, 9, 10, 11, 12], [], [7, 8, 9, 10, 11, 12, 13, 14], [0, 1, 2, 3], [0, 1, 2, 3, 16], [0, 1, 2, 3, 4, 5, 6, 7, 8, 9, 10, 11, 12, 13, 16, 17], [0, 1, 2, 3, 4, 5, 6, 7, 8, 9, 10, 11, 12, 13, 16, 17, 18], [0, 1, 2, 3, 4, 5, 6, 7, 8, 9, 10, 11, 12, 13, 14, 15, 16, 17, 18, 19]]) (.seq (r_ x61_32) (.cnd 191 (.draw x61_33 [[], [0], [0, 1], [0, 1, 2], [], [4], [], [], [], [7, 8], [7, 8, 9], [0, 1, 2, 3], [0, 1, 2, 3, 11], [0, 1, 2, 3, 4, 5, 6, 11, 12], [0, 1, 2, 3, 4, 5, 6, 11, 12, 13], [0, 1, 2, 3, 4, 5, 6, 7, 8, 9, 10, 11, 12, 13, 14]]) (r_ x61_34))))))))))
def x61_53 : L_ := [q_ 208 (m_ 4)]
def x61_54 : L_ := [q_ 209 (m_ 0),
 q_ 210 (.nilck 209),
 q_ 211 (.faddr 0 210),
 q_ 212 (.load .one 1 211),
 q_ 213 (.nilck 212),
 q_ 214 (.faddr 1 213),
 q_ 215 (.iaddrA false 32 1 214 (ci_ 0)),
 on_ (.store 1 215 (ck_ .u64 0))]
def x61_55 : L_ := [q_ 216 (m_ 0),
 q_ 217 (.nilck 216),
 q_ 218 (.faddr 0 217),
 q_ 219 (.load .one 1 218),
 q_ 220 (m_ 7),
 q_ 221 (.nilck 219),
 q_ 222 (.faddr 33 221),
 on_ (.store 1 222 220)]
def x61_59 : L_ := [q_ 223 (m_ 4),
 q_ 2 (m_ 223)]
def x61_62 : C_ := .seq (.seq (r_ x61_9) (.block 0 (.seq (r_ x61_10) (.cnd 44 (.draw x61_11 [[], [0], [0, 1], [0, 1, 2], [], [4], [], [], [], [8], [8, 9], [8, 9, 10], [], [12], [8, 9, 10, 11], [8, 9, 10, 11, 14], [8, 9, 10, 11, 12, 13, 14, 15], [8, 9, 10, 11, 12, 13, 14, 15, 16], [6, 7, 8, 9, 10, 11, 12, 13, 14, 15, 16, 17], [6, 7, 8, 9, 10, 11, 12, 13, 14, 15, 16, 17, 18], [6, 7, 8, 9, 10, 11, 12, 13, 14, 15, 16, 17, 18, 19], [6, 7, 8, 9, 10, 11, 12, 13, 14, 15, 16, 17, 18, 19], [0, 1, 2, 3], [0, 1, 2, 3, 22], [0, 1, 2, 3, 4, 5, 6, 7, 8, 9, 10, 11, 12, 13, 14, 15, 16, 17, 18, 19, 20, 22, 23], [0, 1, 2, 3, 4, 5, 6, 7, 8, 9, 10, 11, 12, 13, 14, 15, 16, 17, 18, 19, 20, 22, 23, 24]]) (.seq (r_ x61_12) (.cnd 72 (.seq (.seq (r_ x61_13) (.cnd 77 (r_ x61_14) .skip)) (.draw x61_17 [[], [0], [0, 1], [0, 1, 2], [], [4], [], [6], [], [], [6, 7, 8, 9], [6, 7, 8, 9, 10], [6, 7, 8, 9, 10, 11], [6, 7, 8, 9, 10, 11], [0, 1, 2, 3], [0, 1, 2, 3, 14], [0, 1, 2, 3, 4, 5, 6, 7, 8, 9, 10, 11, 12, 14, 15], [0, 1, 2, 3, 4, 5, 6, 7, 8, 9, 10, 11, 12, 14, 15, 16]])) (.seq (r_ x61_19) (.cnd 102 (r_ x61_20) x61_44)))))))) (.seq (.seq (r_ x61_53) (.cnd 208 (.seq (r_ x61_54) (r_ x61_55)) .skip)) (.seq (r_ x61_59) .ret))
def x61_67 : C_ := .seq (r_ x61_0) (.seq (r_ x61_1) (.seq (.seq (r_ x61_2) (.cnd 18 (.seq (r_ x61_3) .ret) .skip)) (.seq (.draw x61_7 [[], [0], [0, 1], [0, 1, 2], [], [4], [0, 1, 2, 3], [0, 1, 2, 3, 6], [0, 1, 2, 3, 4, 5, 6, 7], [0, 1, 2, 3, 4, 5, 6, 7, 8], [], [10], [10, 11], [0, 1, 2, 3, 4, 5, 6, 7, 8, 9, 10, 11, 12], [0, 1, 2, 3, 4, 5, 6, 7, 8, 9, 10, 11, 12, 13]]) (.seq (r_ x61_8) x61_62))))
def x61 : C_ := x61_67
theorem fx61 : fnx Try.prog 61 = some (224, [(2, none)], x61) := by kernel_rfl
def x71_0 : L_ := [q_ 2 (mi_ 0),
 q_ 3 (mi_ 0)]
def x71_1 : L_ := [oc_ 4 43 [],
 q_ 5 (m_ 0),
 q_ 6 (.lookup 3 104 (.int .i64) (.agg #[(.int .u8 0), (.int .u32 0), (.int .u32 0), (.int .u32 0)]) false 4 5),
 q_ 7 (.field (.int .u8) 0 1 6),
 oc_ 8 44 [7],
 q_ 9 (.ext 8 0),
 q_ 10 (.ext 8 1),
 q_ 2 (m_ 9),
 q_ 3 (m_ 10)]
def x71_3 : C_ := .seq (r_ x71_0) (.seq (r_ x71_1) .ret)
def x71 : C_ := x71_3
theorem fx71 : fnx Try.prog 71 = some (11, [(2, none), (3, none)], x71) := by kernel_rfl
def x72_0 : L_ := [q_ 2 (.new (zs_ .i64 5)),
 q_ 3 (.mv bf_)]
def x72_1 : L_ := [q_ 11 (m_ 0),
 q_ 12 (m_ 0),
 q_ 13 (.nilck 12),
 q_ 14 (.faddr 33 13),
 q_ 15 (.load (.int .u64) 1 14),
 oc_ 16 83 [11, 15, (ci_ 4)],
 q_ 10 (m_ 16),
 q_ 17 (.ext 10 0),
 q_ 18 (.ext 10 1),
 q_ 4 (m_ 17),
 q_ 5 (m_ 18)]
def x72_2 : L_ := [q_ 19 (m_ 5),
 q_ 20 (.un .not 19)]
def x72_3 : L_ := [q_ 21 (.build (zs_ .i64 5) []),
 on_ (.store 5 2 21),
 q_ 3 (.mv bf_)]
def x72_7 : L_ := [q_ 22 (m_ 4),
 oc_ 23 84 [22],
 q_ 24 (.conv .u32 23),
 q_ 6 (m_ 24)]
def x72_8 : L_ := [q_ 26 (m_ 0),
 q_ 27 (.nilck 26),
 q_ 28 (.faddr 36 27),
 q_ 29 (.load .one 1 28),
 q_ 30 (m_ 6),
 q_ 31 (.lookup 35 26 (.int .u32) (.agg #[(.int .i64 0), (.int .i64 0), (.int .i64 0), (.int .i64 0), (.int .i64 0)]) true 29 30),
 q_ 25 (m_ 31),
 q_ 32 (.ext 25 0),
 q_ 33 (.ext 25 1),
 q_ 7 (.new (zs_ .i64 5)),
 on_ (.store 5 7 32),
 q_ 8 (m_ 33)]
def x72_9 : L_ := [q_ 34 (m_ 8),
 q_ 35 (.un .not 34)]
def x72_10 : L_ := [q_ 9 (mi_ 0)]
def x72_11 : L_ := [q_ 37 (m_ 6),
 oc_ 38 20 [37],
 q_ 36 (m_ 38),
 q_ 39 (.ext 36 0),
 q_ 40 (.ext 36 1),
 on_ (.store 5 7 39),
 q_ 9 (m_ 40)]
def x72_12 : L_ := [q_ 41 (m_ 9),
 q_ 42 (.bin .neq 41 (ci_ 0))]
def x72_13 : L_ := [q_ 43 (.load .agg 5 7),
 on_ (.store 5 2 43),
 q_ 3 (.mv bf_)]
def x72_18 : L_ := [q_ 44 (m_ 0),
 q_ 45 (.nilck 44),
 q_ 46 (.faddr 36 45),
 q_ 47 (.load .one 1 46),
 q_ 48 (m_ 6),
 q_ 49 (.load .agg 5 7),
 on_ (.mapupd 35 26 (.int .u32) 47 48 49)]
def x72_23 : L_ := [q_ 50 (.load .agg 5 7),
 on_ (.store 5 2 50),
 q_ 3 (.mv bt_)]
def x72_26 : C_ := .seq (r_ x72_8) (.seq (.seq (r_ x72_9) (.cnd 35 (.seq (r_ x72_10) (.seq (.seq (r_ x72_11) (.seq (r_ x72_12) (.cnd 42 (.seq (r_ x72_13) .ret) .skip))) (.draw x72_18 [[], [0], [0, 1], [0, 1, 2], [], [], [0, 1, 2, 3, 4, 5]]))) .skip)) (.seq (r_ x72_23) .ret))
def x72_30 : C_ := .seq (r_ x72_0) (.seq (r_ x72_1) (.seq (.seq (r_ x72_2) (.cnd 20 (.seq (r_ x72_3) .ret) .skip)) (.seq (r_ x72_7) x72_26)))
def x72 : C_ := x72_30
theorem fx72 : fnx Try.prog 72 = some (51, [(2, (some (.agg, 5))), (3, none)], x72) := by kernel_rfl
def x73_0 : L_ := [q_ 2 (.mv (ck_ .u64 0))]
def x73_1 : L_ := [q_ 3 (m_ 0),
 q_ 4 (.conv .u64 3),
 q_ 2 (m_ 4)]
def x73_3 : C_ := .seq (r_ x73_0) (.seq (r_ x73_1) .ret)
def x73 : C_ := x73_3
theorem fx73 : fnx Try.prog 73 = some (5, [(2, none)], x73) := by kernel_rfl
def x74_0 : L_ := [q_ 6 (.mv (ck_ .u64 0)),
 q_ 7 (mi_ 0)]
def x74_1 : L_ := [q_ 18 (m_ 0),
 q_ 19 (m_ 1),
 q_ 20 (m_ 2),
 oc_ 21 85 [18, 19, 20],
 q_ 17 (m_ 21),
 q_ 22 (.ext 17 0),
 q_ 23 (.ext 17 1),
 q_ 8 (m_ 22),
 q_ 9 (m_ 23)]
def x74_2 : L_ := [q_ 24 (m_ 9)]
def x74_3 : L_ := [q_ 25 (m_ 8),
 q_ 6 (m_ 25),
 q_ 7 (mi_ 0)]
def x74_8 : L_ := [q_ 27 (m_ 0),
 q_ 28 (m_ 1),
 q_ 29 (m_ 2),
 oc_ 30 86 [27, 28, 29],
 q_ 26 (m_ 30),
 q_ 31 (.ext 26 0),
 q_ 32 (.ext 26 1),
 q_ 10 (m_ 31),
 q_ 11 (m_ 32)]
def x74_9 : L_ := [q_ 33 (m_ 11)]
def x74_10 : L_ := [q_ 34 (m_ 10),
 q_ 6 (m_ 34),
 q_ 7 (mi_ 0)]
def x74_15 : L_ := [q_ 36 (m_ 0),
 oc_ 37 87 [36],
 q_ 35 (m_ 37),
 q_ 38 (.ext 35 0),
 q_ 39 (.ext 35 1),
 q_ 40 (.ext 35 2),
 q_ 12 (m_ 38),
 q_ 13 (m_ 39),
 q_ 14 (m_ 40)]
def x74_16 : L_ := [q_ 41 (m_ 14),
 q_ 42 (.un .not 41)]
def x74_17 : L_ := [q_ 6 (.mv (ck_ .u64 0)),
 q_ 7 (mi_ 1)]
def x74_21 : L_ := [q_ 44 (m_ 1),
 q_ 45 (m_ 13),
 oc_ 46 36 [44, (ci_ 32), 45],
 q_ 43 (m_ 46),
 q_ 47 (.ext 43 0),
 q_ 48 (.ext 43 1),
 q_ 1 (m_ 47)]
def x74_22 : L_ := [q_ 50 (m_ 2),
 q_ 51 (m_ 13),
 oc_ 52 36 [50, (ci_ 32), 51],
 q_ 49 (m_ 52),
 q_ 53 (.ext 49 0),
 q_ 54 (.ext 49 1),
 q_ 2 (m_ 53)]
def x74_23 : L_ := [q_ 55 (m_ 12),
 q_ 56 (.bin .eql 55 (ci_ 3)),
 q_ 57 (m_ 56),
 og_ 58 57 false (m_ 12),
 og_ 59 57 false (.bin .eql 58 (ci_ 7)),
 ⟨(some 60), .pick 57 bt_ 59, none⟩,
 q_ 61 (m_ 60),
 og_ 62 61 false (m_ 12),
 og_ 63 61 false (.bin .eql 62 (ci_ 8)),
 ⟨(some 64), .pick 61 bt_ 63, none⟩]
def x74_24 : L_ := [q_ 65 (m_ 2),
 q_ 66 (.bin .and 65 (ck_ .u64 31)),
 q_ 2 (m_ 66)]
def x74_27 : L_ := [q_ 68 (m_ 12),
 q_ 69 (m_ 1),
 q_ 70 (m_ 2),
 oc_ 71 74 [68, 69, 70],
 q_ 67 (m_ 71),
 q_ 72 (.ext 67 0),
 q_ 73 (.ext 67 1),
 q_ 15 (m_ 72),
 q_ 16 (m_ 73)]
def x74_28 : L_ := [q_ 75 (m_ 15),
 oc_ 76 36 [75, (ci_ 32), bt_],
 q_ 74 (m_ 76),
 q_ 77 (.ext 74 0),
 q_ 78 (.ext 74 1),
 q_ 15 (m_ 77)]
def x74_29 : L_ := [q_ 79 (m_ 15),
 q_ 80 (m_ 16),
 q_ 6 (m_ 79),
 q_ 7 (m_ 80)]
def x74_39 : C_ := .seq (.seq (r_ x74_1) (.seq (r_ x74_2) (.cnd 24 (.seq (r_ x74_3) .ret) .skip))) (.seq (.seq (r_ x74_8) (.seq (r_ x74_9) (.cnd 33 (.seq (r_ x74_10) .ret) .skip))) (.seq (r_ x74_15) (.seq (.seq (r_ x74_16) (.cnd 42 (.seq (r_ x74_17) .ret) .skip)) (.seq (r_ x74_21) (.seq (r_ x74_22) (.seq (.seq (r_ x74_23) (.cnd 64 (r_ x74_24) .skip)) (.seq (r_ x74_27) (.seq (r_ x74_28) (.seq (r_ x74_29) .ret)))))))))
def x74_40 : C_ := .seq (r_ x74_0) x74_39
def x74 : C_ := x74_40
theorem fx74 : fnx Try.prog 74 = some (81, [(6, none), (7, none)], x74) := by kernel_rfl
def x75_0 : L_ := [q_ 2 (mi_ 0)]
def x75_1 : L_ := [q_ 3 (.build (zs_ .i64 10) [(0, 1, (ci_ 1)), (1, 1, (ci_ 4)), (2, 1, (ci_ 5)), (3, 1, (ci_ 6)), (4, 1, (ci_ 9)), (5, 1, (ci_ 10)), (6, 1, (ci_ 3)), (7, 1, (ci_ 7)), (8, 1, (ci_ 8)), (9, 1, (ci_ 18))]),
 q_ 4 (m_ 0),
 q_ 5 (.bin .sub 4 (ci_ 28)),
 q_ 6 (.idxA 10 1 (.int .i64) 3 5),
 q_ 2 (m_ 6)]
def x75_3 : C_ := .seq (r_ x75_0) (.seq (r_ x75_1) .ret)
def x75 : C_ := x75_3
theorem fx75 : fnx Try.prog 75 = some (7, [(2, none)], x75) := by kernel_rfl
def x76_0 : L_ := [q_ 3 (.box 1),
 q_ 4 (.mv bf_)]
def x76_1 : L_ := [q_ 11 (.faddr 0 3),
 q_ 12 (.load (.int .i64) 1 11),
 oc_ 13 88 [12],
 q_ 5 (m_ 13)]
def x76_2 : L_ := [q_ 14 (m_ 0),
 q_ 15 (.nilck 14),
 q_ 16 (.faddr 0 15),
 q_ 17 (.load .one 1 16),
 q_ 18 (.faddr 2 3),
 q_ 19 (.load (.int .i64) 1 18),
 q_ 20 (.nilck 17),
 q_ 21 (.faddr 1 20),
 q_ 22 (.iaddrA true 32 1 21 19),
 q_ 23 (.load (.int .u64) 1 22),
 q_ 24 (.faddr 4 3),
 q_ 25 (.load (.int .i64) 1 24),
 oc_ 26 73 [25],
 q_ 27 (.bin .add 23 26),
 q_ 6 (m_ 27)]
def x76_3 : L_ := [q_ 29 (m_ 0),
 q_ 30 (.nilck 29),
 q_ 31 (.faddr 0 30),
 q_ 32 (.load .one 1 31),
 q_ 33 (m_ 6),
 q_ 34 (m_ 5),
 oc_ 35 83 [32, 33, 34],
 q_ 28 (m_ 35),
 q_ 36 (.ext 28 0),
 q_ 37 (.ext 28 1),
 q_ 7 (m_ 36),
 q_ 8 (m_ 37)]
def x76_4 : L_ := [q_ 38 (m_ 8),
 q_ 39 (.un .not 38)]
def x76_5 : L_ := [q_ 4 (.mv bf_)]
def x76_8 : C_ := .seq (r_ x76_4) (.cnd 39 (.seq (r_ x76_5) .ret) .skip)
def x76_9 : L_ := [q_ 40 (.faddr 0 3),
 q_ 41 (.load (.int .i64) 1 40),
 q_ 42 (.bin .geq 41 (ci_ 42)),
 q_ 9 (m_ 42)]
def x76_10 : L_ := [q_ 43 (m_ 0),
 q_ 44 (.nilck 43),
 q_ 45 (.faddr 4 44),
 q_ 46 (.load .bool 1 45)]
def x76_11 : L_ := [q_ 47 (m_ 0),
 q_ 48 (m_ 0),
 q_ 49 (.nilck 48),
 q_ 50 (.faddr 5 49),
 q_ 51 (.load .one 1 50),
 q_ 52 (m_ 0),
 q_ 53 (.nilck 52),
 q_ 54 (.faddr 0 53),
 q_ 55 (.load .one 1 54),
 q_ 56 (.nilck 55),
 q_ 57 (.faddr 33 56),
 q_ 58 (.load (.int .u64) 1 57),
 q_ 59 (m_ 6),
 q_ 60 (m_ 5),
 q_ 61 (m_ 9),
 q_ 62 (.build [(.int .u64 0), (.int .u64 0), (.int .i64 0), (.bool false)] [(0, 1, 58), (1, 1, 59), (2, 1, 60), (3, 1, 61)]),
 q_ 63 (.mkslice [(.int .u64 0), (.int .u64 0), (.int .i64 0), (.bool false)] 1 [(0, 62)]),
 q_ 64 (.app 4 32 51 63),
 q_ 65 (.nilck 47),
 q_ 66 (.faddr 5 65),
 on_ (.store 1 66 64)]
def x76_13 : C_ := .seq (r_ x76_10) (.cnd 46 (.draw x76_11 [[], [], [1], [1, 2], [1, 2, 3], [], [5], [5, 6], [5, 6, 7], [5, 6, 7, 8], [5, 6, 7, 8, 9], [5, 6, 7, 8, 9, 10], [], [], [], [5, 6, 7, 8, 9, 10, 11, 12, 13, 14], [5, 6, 7, 8, 9, 10, 11, 12, 13, 14, 15], [1, 2, 3, 4, 5, 6, 7, 8, 9, 10, 11, 12, 13, 14, 15, 16], [0, 1, 2, 3, 4, 5, 6, 7, 8, 9, 10, 11, 12, 13, 14, 15, 16, 17], [0, 1, 2, 3, 4, 5, 6, 7, 8, 9, 10, 11, 12, 13, 14, 15, 16, 17, 18], [0, 1, 2, 3, 4, 5, 6, 7, 8, 9, 10, 11, 12, 13, 14, 15, 16, 17, 18, 19]]) .skip)
def x76_14 : L_ := [q_ 67 (m_ 9)]
def x76_15 : L_ := [q_ 68 (m_ 7),
 q_ 69 (.lenS 68),
 q_ 70 (mi_ 0)]
def x76_16 : L_ := [q_ 71 (.bin .lss 70 69)]
def x76_18 : L_ := [q_ 72 (m_ 70),
 q_ 10 (m_ 72)]
def x76_19 : L_ := [q_ 73 (m_ 7),
 q_ 74 (m_ 10),
 q_ 75 (m_ 0),
 q_ 76 (.nilck 75),
 q_ 77 (.faddr 0 76),
 q_ 78 (.load .one 1 77),
 q_ 79 (.faddr 3 3),
 q_ 80 (.load (.int .i64) 1 79),
 q_ 81 (.nilck 78),
 q_ 82 (.faddr 1 81),
 q_ 83 (.iaddrA true 32 1 82 80),
 q_ 84 (.load (.int .u64) 1 83),
 q_ 85 (m_ 10),
 q_ 86 (.bin .mul (ci_ 8) 85),
 q_ 87 (.bin .shr 84 86),
 q_ 88 (.conv .u8 87),
 q_ 89 (.iaddrS 1 73 74),
 on_ (.store 1 89 88)]
def x76_22 : L_ := [q_ 90 (.bin .add 70 (ci_ 1)),
 q_ 70 (m_ 90)]
def x76_25 : C_ := .seq (r_ x76_16) (.seq (.cnd 71 .skip (.exit 0)) (.seq (.block 1 (.seq (r_ x76_18) (.draw x76_19 [[], [], [], [2], [2, 3], [2, 3, 4], [], [6], [2, 3, 4, 5], [2, 3, 4, 5, 8], [2, 3, 4, 5, 6, 7, 8, 9], [2, 3, 4, 5, 6, 7, 8, 9, 10], [], [12], [2, 3, 4, 5, 6, 7, 8, 9, 10, 11, 12, 13], [2, 3, 4, 5, 6, 7, 8, 9, 10, 11, 12, 13, 14], [0, 1, 2, 3, 4, 5, 6, 7, 8, 9, 10, 11, 12, 13, 14, 15], [0, 1, 2, 3, 4, 5, 6, 7, 8, 9, 10, 11, 12, 13, 14, 15, 16]]))) (r_ x76_22)))
def x76_29 : L_ := [q_ 4 (.mv bt_)]
def x76_30 : C_ := .seq (r_ x76_29) .ret
def x76_33 : C_ := .seq (r_ x76_14) (.cnd 67 (.seq (.seq (r_ x76_15) (.block 0 (.loop x76_25))) x76_30) .skip)
def x76_34 : L_ := [q_ 92 (m_ 0),
 q_ 93 (.nilck 92),
 q_ 94 (.faddr 0 93),
 q_ 95 (.load .one 1 94),
 q_ 96 (.faddr 1 3),
 q_ 97 (.load (.int .i64) 1 96),
 q_ 98 (m_ 7),
 oc_ 99 84 [98],
 q_ 100 (m_ 5),
 q_ 101 (.bin .mul (ci_ 8) 100),
 q_ 102 (.faddr 0 3),
 q_ 103 (.load (.int .i64) 1 102),
 q_ 104 (.bin .neq 103 (ci_ 39)),
 oc_ 105 36 [99, 101, 104],
 q_ 91 (m_ 105),
 q_ 106 (.ext 91 0),
 q_ 107 (.ext 91 1),
 q_ 108 (.nilck 95),
 q_ 109 (.faddr 1 108),
 q_ 110 (.iaddrA true 32 1 109 97),
 on_ (.store 1 110 106)]
def x76_35 : L_ := [q_ 4 (.mv bt_)]
def x76_37 : C_ := .seq (.draw x76_34 [[], [0], [0, 1], [0, 1, 2], [], [4], [], [6], [], [8], [], [10], [10, 11], [6, 7, 8, 9, 10, 11, 12], [6, 7, 8, 9, 10, 11, 12, 13], [6, 7, 8, 9, 10, 11, 12, 13, 14], [6, 7, 8, 9, 10, 11, 12, 13, 14], [0, 1, 2, 3], [0, 1, 2, 3, 17], [0, 1, 2, 3, 4, 5, 6, 7, 8, 9, 10, 11, 12, 13, 14, 15, 17, 18], [0, 1, 2, 3, 4, 5, 6, 7, 8, 9, 10, 11, 12, 13, 14, 15, 17, 18, 19]]) (.seq (r_ x76_35) .ret)
def x76_38 : C_ := .seq x76_33 x76_37
def x76_41 : C_ := .seq x76_8 (.seq (r_ x76_9) (.seq x76_13 x76_38))
def x76_42 : C_ := .seq (r_ x76_3) x76_41
def x76_43 : C_ := .seq (.draw x76_2 [[], [0], [0, 1], [0, 1, 2], [], [4], [0, 1, 2, 3], [0, 1, 2, 3, 6], [0, 1, 2, 3, 4, 5, 6, 7], [0, 1, 2, 3, 4, 5, 6, 7, 8], [], [10], [10, 11], [0, 1, 2, 3, 4, 5, 6, 7, 8, 9, 10, 11, 12], [0, 1, 2, 3, 4, 5, 6, 7, 8, 9, 10, 11, 12, 13]]) x76_42
def x76_45 : C_ := .seq (r_ x76_0) (.seq (r_ x76_1) x76_43)
def x76 : C_ := x76_45
theorem fx76 : fnx Try.prog 76 = some (111, [(4, none)], x76) := by kernel_rfl
def x77_0 : L_ := [q_ 6 (.mv bf_)]
def x77_1 : L_ := [q_ 7 (m_ 0)]
def x77_2 : L_ := [q_ 9 (.bin .eql 7 (ci_ 45)),
 q_ 8 (m_ 9)]
def x77_3 : L_ := [q_ 10 (.bin .eql 7 (ci_ 46)),
 q_ 8 (m_ 10)]
def x77_6 : L_ := [q_ 11 (m_ 1),
 q_ 12 (m_ 2),
 q_ 13 (.bin .eql 11 12),
 q_ 14 (m_ 0),
 q_ 15 (.bin .eql 14 (ci_ 45)),
 q_ 16 (.eqb false 13 15),
 q_ 6 (m_ 16)]
def x77_8 : L_ := [q_ 18 (.bin .eql 7 (ci_ 47)),
 q_ 17 (m_ 18)]
def x77_9 : L_ := [q_ 19 (.bin .eql 7 (ci_ 48)),
 q_ 17 (m_ 19)]
def x77_12 : L_ := [q_ 20 (m_ 1),
 q_ 21 (.conv .i64 20),
 q_ 22 (m_ 2),
 q_ 23 (.conv .i64 22),
 q_ 24 (.bin .lss 21 23),
 q_ 25 (m_ 0),
 q_ 26 (.bin .eql 25 (ci_ 47)),
 q_ 27 (.eqb false 24 26),
 q_ 6 (m_ 27)]
def x77_20 : L_ := [q_ 28 (m_ 1),
 q_ 29 (m_ 2),
 q_ 30 (.bin .lss 28 29),
 q_ 31 (m_ 0),
 q_ 32 (.bin .eql 31 (ci_ 49)),
 q_ 33 (.eqb false 30 32),
 q_ 6 (m_ 33)]
def x77_23 : C_ := .seq (r_ x77_0) (.seq (.seq (r_ x77_1) (.block 0 (.seq (.seq (r_ x77_2) (.cnd 8 .skip (r_ x77_3))) (.cnd 8 (.seq (r_ x77_6) .ret) (.seq (.seq (r_ x77_8) (.cnd 17 .skip (r_ x77_9))) (.cnd 17 (.seq (r_ x77_12) .ret) .skip)))))) (.seq (r_ x77_20) .ret))
def x77 : C_ := x77_23
theorem fx77 : fnx Try.prog 77 = some (34, [(6, none)], x77) := by kernel_rfl
def x78_0 : L_ := [q_ 2 (.mv bf_)]
def x78_1 : L_ := [q_ 3 (m_ 0),
 q_ 4 (.nilck 3),
 q_ 5 (.faddr 0 4),
 q_ 6 (.load .one 1 5),
 q_ 7 (.nilck 6),
 q_ 8 (.faddr 1 7),
 q_ 9 (.iaddrA false 32 1 8 (ci_ 17)),
 q_ 10 (.load (.int .u64) 1 9)]
def x78_2 : L_ := [q_ 12 (.bin .eql 10 (ck_ .u64 1)),
 q_ 11 (m_ 12)]
def x78_3 : L_ := [q_ 13 (m_ 0),
 q_ 14 (m_ 0),
 q_ 15 (.nilck 14),
 q_ 16 (.faddr 2 15),
 q_ 17 (.load .one 1 16),
 q_ 18 (m_ 0),
 q_ 19 (.nilck 18),
 q_ 20 (.faddr 0 19),
 q_ 21 (.load .one 1 20),
 q_ 22 (.nilck 21),
 q_ 23 (.faddr 1 22),
 q_ 24 (.iaddrA false 32 1 23 (ci_ 10)),
 q_ 25 (.load (.int .u64) 1 24),
 q_ 26 (.conv .u8 25),
 q_ 27 (.mkslice [(.int .u8 0)] 1 [(0, 26)]),
 q_ 28 (.app 1 1 17 27),
 q_ 29 (.nilck 13),
 q_ 30 (.faddr 2 29),
 on_ (.store 1 30 28)]
def x78_4 : L_ := [q_ 32 (.bin .eql 10 (ck_ .u64 2)),
 q_ 31 (m_ 32)]
def x78_5 : L_ := [q_ 33 (m_ 0),
 q_ 34 (.nilck 33),
 q_ 35 (.faddr 0 34),
 q_ 36 (.load .one 1 35),
 q_ 37 (.nilck 36),
 q_ 38 (.faddr 1 37),
 q_ 39 (.iaddrA false 32 1 38 (ci_ 10)),
 on_ (.store 1 39 (ck_ .u64 18446744073709551615))]
def x78_6 : L_ := [q_ 40 (m_ 0),
 q_ 41 (.nilck 40),
 q_ 42 (.faddr 1 41),
 q_ 43 (.load .one 1 42),
 q_ 44 (.lenS 43),
 q_ 45 (.bin .gtr 44 (ci_ 0))]
def x78_7 : L_ := [q_ 46 (m_ 0),
 q_ 47 (.nilck 46),
 q_ 48 (.faddr 0 47),
 q_ 49 (.load .one 1 48),
 q_ 50 (m_ 0),
 q_ 51 (m_ 0),
 q_ 52 (.nilck 51),
 q_ 53 (.faddr 1 52),
 q_ 54 (.load .one 1 53),
 q_ 55 (.iaddrS 1 54 (ci_ 0)),
 q_ 56 (.load (.int .u8) 1 55),
 q_ 57 (.conv .u64 56),
 q_ 58 (m_ 0),
 q_ 59 (.nilck 58),
 q_ 60 (.faddr 1 59),
 q_ 61 (.load .one 1 60),
 q_ 62 (.slS 1 61 (some (ci_ 1)) none),
 q_ 63 (.nilck 49),
 q_ 64 (.faddr 1 63),
 q_ 65 (.iaddrA false 32 1 64 (ci_ 10)),
 on_ (.store 1 65 57),
 q_ 66 (.nilck 50),
 q_ 67 (.faddr 1 66),
 on_ (.store 1 67 62)]
def x78_11 : L_ := [q_ 69 (.bin .eql 10 (ck_ .u64 3)),
 q_ 68 (m_ 69)]
def x78_12 : L_ := [q_ 70 (m_ 0),
 q_ 71 (.nilck 70),
 q_ 72 (.faddr 0 71),
 q_ 73 (.load .one 1 72),
 q_ 74 (m_ 0),
 q_ 75 (.nilck 74),
 q_ 76 (.faddr 0 75),
 q_ 77 (.load .one 1 76),
 q_ 78 (m_ 0),
 q_ 79 (.nilck 78),
 q_ 80 (.faddr 0 79),
 q_ 81 (.load .one 1 80),
 q_ 82 (.nilck 81),
 q_ 83 (.faddr 1 82),
 q_ 84 (.iaddrA false 32 1 83 (ci_ 10)),
 q_ 85 (.load (.int .u64) 1 84),
 q_ 86 (.conv .u8 85),
 q_ 87 (.nilck 73),
 q_ 88 (.faddr 34 87),
 on_ (.store 1 88 (ci_ 1)),
 q_ 89 (.nilck 77),
 q_ 90 (.faddr 35 89),
 on_ (.store 1 90 86)]
def x78_13 : L_ := [q_ 92 (.bin .eql 10 (ck_ .u64 4)),
 q_ 91 (m_ 92)]
def x78_14 : L_ := [q_ 93 (m_ 0),
 q_ 94 (.nilck 93),
 q_ 95 (.faddr 0 94),
 q_ 96 (.load .one 1 95),
 q_ 97 (.nilck 96),
 q_ 98 (.faddr 34 97),
 on_ (.store 1 98 (ci_ 2))]
def x78_15 : L_ := [q_ 100 (.bin .eql 10 (ck_ .u64 5)),
 q_ 99 (m_ 100)]
def x78_16 : L_ := [q_ 101 (m_ 0),
 q_ 102 (.nilck 101),
 q_ 103 (.faddr 0 102),
 q_ 104 (.load .one 1 103),
 q_ 105 (.nilck 104),
 q_ 106 (.faddr 34 105),
 on_ (.store 1 106 (ci_ 3))]
def x78_17 : L_ := [q_ 2 (.mv bf_)]
def x78_27 : C_ := .cnd 11 (.draw x78_3 [[], [], [1], [1, 2], [1, 2, 3], [], [5], [5, 6], [5, 6, 7], [5, 6, 7, 8], [5, 6, 7, 8, 9], [5, 6, 7, 8, 9, 10], [5, 6, 7, 8, 9, 10, 11], [5, 6, 7, 8, 9, 10, 11, 12], [5, 6, 7, 8, 9, 10, 11, 12, 13], [1, 2, 3, 4, 5, 6, 7, 8, 9, 10, 11, 12, 13, 14], [0, 1, 2, 3, 4, 5, 6, 7, 8, 9, 10, 11, 12, 13, 14, 15], [0, 1, 2, 3, 4, 5, 6, 7, 8, 9, 10, 11, 12, 13, 14, 15, 16], [0, 1, 2, 3, 4, 5, 6, 7, 8, 9, 10, 11, 12, 13, 14, 15, 16, 17]]) (.seq (r_ x78_4) (.cnd 31 (.seq (r_ x78_5) (.seq (r_ x78_6) (.cnd 45 (.draw x78_7 [[], [0], [0, 1], [0, 1, 2], [], [], [5], [5, 6], [5, 6, 7], [5, 6, 7, 8], [5, 6, 7, 8, 9], [5, 6, 7, 8, 9, 10], [], [12], [12, 13], [12, 13, 14], [12, 13, 14, 15], [0, 1, 2, 3], [0, 1, 2, 3, 17], [0, 1, 2, 3, 5, 6, 7, 8, 9, 10, 11, 12, 13, 14, 15, 17, 18], [0, 1, 2, 3, 5, 6, 7, 8, 9, 10, 11, 12, 13, 14, 15, 17, 18, 19], [0, 1, 2, 3, 4, 5, 6, 7, 8, 9, 10, 11, 12, 13, 14, 15, 16, 17, 18, 19, 20], [0, 1, 2, 3, 4, 5, 6, 7, 8, 9, 10, 11, 12, 13, 14, 15, 16, 17, 18, 19, 20, 21], [0, 1, 2, 3, 4, 5, 6, 7, 8, 9, 10, 11, 12, 13, 14, 15, 16, 17, 18, 19, 20, 21, 22]]) .skip))) (.seq (r_ x78_11) (.cnd 68 (.draw x78_12 [[], [0], [0, 1], [0, 1, 2], [], [4], [4, 5], [4, 5, 6], [], [8], [8, 9], [8, 9, 10], [8, 9, 10, 11], [8, 9, 10, 11, 12], [8, 9, 10, 11, 12, 13], [8, 9, 10, 11, 12, 13, 14], [8, 9, 10, 11, 12, 13, 14, 15], [0, 1, 2, 3, 4, 5, 6, 7, 8, 9, 10, 11, 12, 13, 14, 15], [0, 1, 2, 3, 4, 5, 6, 7, 8, 9, 10, 11, 12, 13, 14, 15, 17], [0, 1, 2, 3, 4, 5, 6, 7, 8, 9, 10, 11, 12, 13, 14, 15, 17, 18], [0, 1, 2, 3, 4, 5, 6, 7, 8, 9, 10, 11, 12, 13, 14, 15, 16, 17, 18, 19], [0, 1, 2, 3, 4, 5, 6, 7, 8, 9, 10, 11, 12, 13, 14, 15, 16, 17, 18, 19, 20], [0, 1, 2, 3, 4, 5, 6, 7, 8, 9, 10, 11, 12, 13, 14, 15, 16, 17, 18, 19, 20, 21]]) (.seq (r_ x78_13) (.cnd 91 (r_ x78_14) (.seq (r_ x78_15) (.cnd 99 (r_ x78_16) (.seq (r_ x78_17) .ret)))))))))
def x78_31 : L_ := [q_ 2 (.mv bt_)]
def x78_34 : C_ := .seq (r_ x78_0) (.seq (.seq (r_ x78_1) (.block 0 (.seq (r_ x78_2) x78_27))) (.seq (r_ x78_31) .ret))
def x78 : C_ := x78_34
theorem fx78 : fnx Try.prog 78 = some (107, [(2, none)], x78) := by kernel_rfl
def x83_0 : L_ := [q_ 6 (.mv (.const (.slice none 0 0))),
 q_ 7 (.mv bf_)]
def x83_1 : L_ := [q_ 8 (m_ 1),
 q_ 9 (m_ 2),
 q_ 10 (.conv .u64 9),
 q_ 11 (.bin .rem 8 10),
 q_ 12 (.bin .neq 11 (ck_ .u64 0)),
 q_ 13 (m_ 12),
 og_ 14 13 false (m_ 1),
 og_ 15 13 false (m_ 0),
 og_ 16 13 false (.nilck 15),
 og_ 17 13 false (.faddr 0 16),
 og_ 18 13 false (.load .one 1 17),
 og_ 19 13 false (.lenS 18),
 og_ 20 13 false (.conv .u64 19),
 og_ 21 13 false (.bin .gtr 14 20),
 ⟨(some 22), .pick 13 bt_ 21, none⟩,
 q_ 23 (m_ 22),
 og_ 24 23 false (m_ 0),
 og_ 25 23 false (.nilck 24),
 og_ 26 23 false (.faddr 0 25),
 og_ 27 23 false (.load .one 1 26),
 og_ 28 23 false (.lenS 27),
 og_ 29 23 false (.conv .u64 28),
 og_ 30 23 false (m_ 1),
 og_ 31 23 false (.bin .sub 29 30),
 og_ 32 23 false (m_ 2),
 og_ 33 23 false (.conv .u64 32),
 og_ 34 23 false (.bin .lss 31 33),
 ⟨(some 35), .pick 23 bt_ 34, none⟩]
def x83_2 : L_ := [q_ 6 (.mv (.const (.slice none 0 0))),
 q_ 7 (.mv bf_)]
def x83_6 : L_ := [q_ 36 (m_ 0),
 q_ 37 (.nilck 36),
 q_ 38 (.faddr 0 37),
 q_ 39 (.load .one 1 38),
 q_ 40 (m_ 1),
 q_ 41 (m_ 1),
 q_ 42 (m_ 2),
 q_ 43 (.conv .u64 42),
 q_ 44 (.bin .add 41 43),
 q_ 45 (.slS 1 39 (some 40) (some 44)),
 q_ 6 (m_ 45),
 q_ 7 (.mv bt_)]
def x83_9 : C_ := .seq (r_ x83_0) (.seq (.seq (r_ x83_1) (.cnd 35 (.seq (r_ x83_2) .ret) .skip)) (.seq (r_ x83_6) .ret))
def x83 : C_ := x83_9
theorem fx83 : fnx Try.prog 83 = some (46, [(6, none), (7, none)], x83) := by kernel_rfl
def x84_0 : L_ := [q_ 2 (.mv (ck_ .u64 0))]
def x84_1 : L_ := [q_ 3 (.mv (ck_ .u64 0))]
def x84_2 : L_ := [q_ 6 (m_ 0),
 q_ 7 (.lenS 6),
 q_ 8 (mi_ 0)]
def x84_3 : L_ := [q_ 9 (.bin .lss 8 7)]
def x84_5 : L_ := [q_ 10 (m_ 8),
 q_ 11 (.iaddrS 1 6 8),
 q_ 12 (.load (.int .u8) 1 11),
 q_ 4 (m_ 10),
 q_ 5 (m_ 12)]
def x84_6 : L_ := [q_ 13 (m_ 3),
 q_ 14 (m_ 5),
 q_ 15 (.conv .u64 14),
 q_ 16 (m_ 4),
 q_ 17 (.bin .mul (ci_ 8) 16),
 q_ 18 (.bin .shl 15 17),
 q_ 19 (.bin .or 13 18),
 q_ 3 (m_ 19)]
def x84_9 : L_ := [q_ 20 (.bin .add 8 (ci_ 1)),
 q_ 8 (m_ 20)]
def x84_16 : L_ := [q_ 21 (m_ 3),
 q_ 2 (m_ 21)]
def x84_19 : C_ := .seq (r_ x84_1) (.seq (.seq (r_ x84_2) (.block 0 (.loop (.seq (r_ x84_3) (.seq (.cnd 9 .skip (.exit 0)) (.seq (.block 1 (.seq (r_ x84_5) (r_ x84_6))) (r_ x84_9))))))) (.seq (r_ x84_16) .ret))
def x84_20 : C_ := .seq (r_ x84_0) x84_19
def x84 : C_ := x84_20
theorem fx84 : fnx Try.prog 84 = some (22, [(2, none)], x84) := by kernel_rfl
def x85_0 : L_ := [q_ 6 (.mv (ck_ .u64 0)),
 q_ 7 (.mv bf_)]
def x85_1 : L_ := [q_ 12 (m_ 1),
 q_ 13 (.conv .i64 12),
 q_ 14 (m_ 2),
 q_ 15 (.conv .i64 14),
 q_ 8 (m_ 13),
 q_ 9 (m_ 15)]
def x85_2 : L_ := [q_ 17 (m_ 1),
 q_ 18 (m_ 2),
 oc_ 19 98 [17, 18],
 q_ 16 (m_ 19),
 q_ 20 (.ext 16 0),
 q_ 21 (.ext 16 1),
 q_ 10 (m_ 20),
 q_ 11 (m_ 21)]
def x85_3 : L_ := [q_ 22 (m_ 0)]
def x85_4 : L_ := [q_ 24 (.bin .eql 22 (ci_ 1)),
 q_ 23 (m_ 24)]
def x85_5 : L_ := [q_ 25 (m_ 1),
 q_ 26 (m_ 2),
 q_ 27 (.bin .add 25 26),
 q_ 6 (m_ 27),
 q_ 7 (.mv bt_)]
def x85_7 : L_ := [q_ 29 (.bin .eql 22 (ci_ 2)),
 q_ 28 (m_ 29)]
def x85_8 : L_ := [q_ 30 (m_ 1),
 q_ 31 (m_ 2),
 q_ 32 (.bin .sub 30 31),
 q_ 6 (m_ 32),
 q_ 7 (.mv bt_)]
def x85_10 : L_ := [q_ 34 (.bin .eql 22 (ci_ 3)),
 q_ 33 (m_ 34)]
def x85_11 : L_ := [q_ 35 (m_ 1),
 q_ 36 (m_ 2),
 q_ 37 (.bin .and 36 (ck_ .u64 63)),
 q_ 38 (.bin .shl 35 37),
 q_ 6 (m_ 38),
 q_ 7 (.mv bt_)]
def x85_13 : L_ := [q_ 40 (.bin .eql 22 (ci_ 4)),
 q_ 39 (m_ 40)]
def x85_14 : L_ := [q_ 41 (m_ 8),
 q_ 42 (m_ 9),
 q_ 43 (.bin .lss 41 42),
 oc_ 44 99 [43],
 q_ 6 (m_ 44),
 q_ 7 (.mv bt_)]
def x85_16 : L_ := [q_ 46 (.bin .eql 22 (ci_ 5)),
 q_ 45 (m_ 46)]
def x85_17 : L_ := [q_ 47 (m_ 1),
 q_ 48 (m_ 2),
 q_ 49 (.bin .lss 47 48),
 oc_ 50 99 [49],
 q_ 6 (m_ 50),
 q_ 7 (.mv bt_)]
def x85_19 : L_ := [q_ 52 (.bin .eql 22 (ci_ 6)),
 q_ 51 (m_ 52)]
def x85_20 : L_ := [q_ 53 (m_ 1),
 q_ 54 (m_ 2),
 q_ 55 (.bin .xor 53 54),
 q_ 6 (m_ 55),
 q_ 7 (.mv bt_)]
def x85_22 : L_ := [q_ 57 (.bin .eql 22 (ci_ 7)),
 q_ 56 (m_ 57)]
def x85_23 : L_ := [q_ 58 (m_ 1),
 q_ 59 (m_ 2),
 q_ 60 (.bin .and 59 (ck_ .u64 63)),
 q_ 61 (.bin .shr 58 60),
 q_ 6 (m_ 61),
 q_ 7 (.mv bt_)]
def x85_25 : L_ := [q_ 63 (.bin .eql 22 (ci_ 8)),
 q_ 62 (m_ 63)]
def x85_26 : L_ := [q_ 64 (m_ 8),
 q_ 65 (m_ 2),
 q_ 66 (.bin .and 65 (ck_ .u64 63)),
 q_ 67 (.bin .shr 64 66),
 q_ 68 (.conv .u64 67),
 q_ 6 (m_ 68),
 q_ 7 (.mv bt_)]
def x85_28 : L_ := [q_ 70 (.bin .eql 22 (ci_ 9)),
 q_ 69 (m_ 70)]
def x85_29 : L_ := [q_ 71 (m_ 1),
 q_ 72 (m_ 2),
 q_ 73 (.bin .or 71 72),
 q_ 6 (m_ 73),
 q_ 7 (.mv bt_)]
def x85_31 : L_ := [q_ 75 (.bin .eql 22 (ci_ 10)),
 q_ 74 (m_ 75)]
def x85_32 : L_ := [q_ 76 (m_ 1),
 q_ 77 (m_ 2),
 q_ 78 (.bin .and 76 77),
 q_ 6 (m_ 78),
 q_ 7 (.mv bt_)]
def x85_34 : L_ := [q_ 80 (.bin .eql 22 (ci_ 11)),
 q_ 79 (m_ 80)]
def x85_35 : L_ := [q_ 81 (m_ 11),
 q_ 6 (m_ 81),
 q_ 7 (.mv bt_)]
def x85_37 : L_ := [q_ 83 (.bin .eql 22 (ci_ 13)),
 q_ 82 (m_ 83)]
def x85_38 : L_ := [q_ 84 (m_ 10),
 q_ 6 (m_ 84),
 q_ 7 (.mv bt_)]
def x85_40 : L_ := [q_ 86 (.bin .eql 22 (ci_ 12)),
 q_ 85 (m_ 86)]
def x85_41 : L_ := [q_ 87 (m_ 10),
 q_ 88 (m_ 2),
 q_ 89 (m_ 8),
 q_ 90 (.bin .lss 89 (ci_ 0)),
 oc_ 91 99 [90],
 q_ 92 (.bin .mul 88 91),
 q_ 93 (.bin .sub 87 92),
 q_ 94 (m_ 1),
 q_ 95 (m_ 9),
 q_ 96 (.bin .lss 95 (ci_ 0)),
 oc_ 97 99 [96],
 q_ 98 (.bin .mul 94 97),
 q_ 99 (.bin .sub 93 98),
 q_ 6 (m_ 99),
 q_ 7 (.mv bt_)]
def x85_51 : C_ := .cnd 69 (.seq (r_ x85_29) .ret) (.seq (r_ x85_31) (.cnd 74 (.seq (r_ x85_32) .ret) (.seq (r_ x85_34) (.cnd 79 (.seq (r_ x85_35) .ret) (.seq (r_ x85_37) (.cnd 82 (.seq (r_ x85_38) .ret) (.seq (r_ x85_40) (.cnd 85 (.seq (r_ x85_41) .ret) .skip))))))))
def x85_61 : C_ := .cnd 39 (.seq (r_ x85_14) .ret) (.seq (r_ x85_16) (.cnd 45 (.seq (r_ x85_17) .ret) (.seq (r_ x85_19) (.cnd 51 (.seq (r_ x85_20) .ret) (.seq (r_ x85_22) (.cnd 56 (.seq (r_ x85_23) .ret) (.seq (r_ x85_25) (.cnd 62 (.seq (r_ x85_26) .ret) (.seq (r_ x85_28) x85_51)))))))))
def x85_71 : L_ := [q_ 6 (.mv (ck_ .u64 0)),
 q_ 7 (.mv bf_)]
def x85_73 : C_ := .seq (.seq (r_ x85_3) (.block 0 (.seq (r_ x85_4) (.cnd 23 (.seq (r_ x85_5) .ret) (.seq (r_ x85_7) (.cnd 28 (.seq (r_ x85_8) .ret) (.seq (r_ x85_10) (.cnd 33 (.seq (r_ x85_11) .ret) (.seq (r_ x85_13) x85_61))))))))) (.seq (r_ x85_71) .ret)
def x85_76 : C_ := .seq (r_ x85_0) (.seq (r_ x85_1) (.seq (r_ x85_2) x85_73))
def x85 : C_ := x85_76
theorem fx85 : fnx Try.prog 85 = some (100, [(6, none), (7, none)], x85) := by kernel_rfl
def x86_0 : L_ := [q_ 6 (.mv (ck_ .u64 0)),
 q_ 7 (.mv bf_)]
def x86_1 : L_ := [q_ 10 (m_ 1),
 q_ 11 (.conv .i64 10),
 q_ 12 (m_ 2),
 q_ 13 (.conv .i64 12),
 q_ 8 (m_ 11),
 q_ 9 (m_ 13)]
def x86_2 : L_ := [q_ 14 (m_ 0)]
def x86_3 : L_ := [q_ 16 (.bin .eql 14 (ci_ 14)),
 q_ 15 (m_ 16)]
def x86_4 : L_ := [q_ 17 (.bin .eql 14 (ci_ 15)),
 q_ 15 (m_ 17)]
def x86_7 : L_ := [q_ 18 (m_ 2),
 q_ 19 (.bin .eql 18 (ck_ .u64 0))]
def x86_8 : L_ := [q_ 6 (.mv (ck_ .u64 18446744073709551615)),
 q_ 7 (.mv bt_)]
def x86_12 : L_ := [q_ 20 (m_ 0),
 q_ 21 (.bin .eql 20 (ci_ 15))]
def x86_13 : L_ := [q_ 22 (m_ 1),
 q_ 23 (m_ 2),
 q_ 24 (.bin .quo 22 23),
 q_ 6 (m_ 24),
 q_ 7 (.mv bt_)]
def x86_17 : L_ := [q_ 25 (m_ 8),
 q_ 26 (m_ 9),
 q_ 27 (.bin .quo 25 26),
 q_ 28 (.conv .u64 27),
 q_ 6 (m_ 28),
 q_ 7 (.mv bt_)]
def x86_21 : L_ := [q_ 30 (.bin .eql 14 (ci_ 16)),
 q_ 29 (m_ 30)]
def x86_22 : L_ := [q_ 31 (.bin .eql 14 (ci_ 17)),
 q_ 29 (m_ 31)]
def x86_25 : L_ := [q_ 32 (m_ 2),
 q_ 33 (.bin .eql 32 (ck_ .u64 0))]
def x86_26 : L_ := [q_ 34 (m_ 1),
 q_ 6 (m_ 34),
 q_ 7 (.mv bt_)]
def x86_30 : L_ := [q_ 35 (m_ 0),
 q_ 36 (.bin .eql 35 (ci_ 17))]
def x86_31 : L_ := [q_ 37 (m_ 1),
 q_ 38 (m_ 2),
 q_ 39 (.bin .rem 37 38),
 q_ 6 (m_ 39),
 q_ 7 (.mv bt_)]
def x86_35 : L_ := [q_ 40 (m_ 8),
 q_ 41 (m_ 9),
 q_ 42 (.bin .rem 40 41),
 q_ 43 (.conv .u64 42),
 q_ 6 (m_ 43),
 q_ 7 (.mv bt_)]
def x86_43 : C_ := .block 0 (.seq (.seq (r_ x86_3) (.cnd 15 .skip (r_ x86_4))) (.cnd 15 (.seq (.seq (r_ x86_7) (.cnd 19 (.seq (r_ x86_8) .ret) .skip)) (.seq (.seq (r_ x86_12) (.cnd 21 (.seq (r_ x86_13) .ret) .skip)) (.seq (r_ x86_17) .ret))) (.seq (.seq (r_ x86_21) (.cnd 29 .skip (r_ x86_22))) (.cnd 29 (.seq (.seq (r_ x86_25) (.cnd 33 (.seq (r_ x86_26) .ret) .skip)) (.seq (.seq (r_ x86_30) (.cnd 36 (.seq (r_ x86_31) .ret) .skip)) (.seq (r_ x86_35) .ret))) .skip))))
def x86_45 : L_ := [q_ 6 (.mv (ck_ .u64 0)),
 q_ 7 (.mv bf_)]
def x86_49 : C_ := .seq (r_ x86_0) (.seq (r_ x86_1) (.seq (.seq (r_ x86_2) x86_43) (.seq (r_ x86_45) .ret)))
def x86 : C_ := x86_49
theorem fx86 : fnx Try.prog 86 = some (44, [(6, none), (7, none)], x86) := by kernel_rfl
def x87_0 : L_ := [q_ 2 (mi_ 0),
 q_ 3 (.mv bf_),
 q_ 4 (.mv bf_)]
def x87_1 : L_ := [q_ 5 (m_ 0)]
def x87_2 : L_ := [q_ 7 (.bin .eql 5 (ci_ 18)),
 q_ 6 (m_ 7)]
def x87_3 : L_ := [q_ 2 (mi_ 1),
 q_ 3 (.mv bt_),
 q_ 4 (.mv bt_)]
def x87_5 : L_ := [q_ 9 (.bin .eql 5 (ci_ 19)),
 q_ 8 (m_ 9)]
def x87_6 : L_ := [q_ 2 (mi_ 2),
 q_ 3 (.mv bt_),
 q_ 4 (.mv bt_)]
def x87_8 : L_ := [q_ 11 (.bin .eql 5 (ci_ 20)),
 q_ 10 (m_ 11)]
def x87_9 : L_ := [q_ 2 (mi_ 3),
 q_ 3 (.mv bt_),
 q_ 4 (.mv bt_)]
def x87_11 : L_ := [q_ 13 (.bin .eql 5 (ci_ 21)),
 q_ 12 (m_ 13)]
def x87_12 : L_ := [q_ 2 (mi_ 7),
 q_ 3 (.mv bf_),
 q_ 4 (.mv bt_)]
def x87_14 : L_ := [q_ 15 (.bin .eql 5 (ci_ 22)),
 q_ 14 (m_ 15)]
def x87_15 : L_ := [q_ 2 (mi_ 8),
 q_ 3 (.mv bt_),
 q_ 4 (.mv bt_)]
def x87_17 : L_ := [q_ 17 (.bin .eql 5 (ci_ 23)),
 q_ 16 (m_ 17)]
def x87_18 : L_ := [q_ 2 (mi_ 11),
 q_ 3 (.mv bt_),
 q_ 4 (.mv bt_)]
def x87_20 : L_ := [q_ 19 (.bin .eql 5 (ci_ 24)),
 q_ 18 (m_ 19)]
def x87_21 : L_ := [q_ 2 (mi_ 14),
 q_ 3 (.mv bt_),
 q_ 4 (.mv bt_)]
def x87_23 : L_ := [q_ 21 (.bin .eql 5 (ci_ 25)),
 q_ 20 (m_ 21)]
def x87_24 : L_ := [q_ 2 (mi_ 15),
 q_ 3 (.mv bf_),
 q_ 4 (.mv bt_)]
def x87_26 : L_ := [q_ 23 (.bin .eql 5 (ci_ 26)),
 q_ 22 (m_ 23)]
def x87_27 : L_ := [q_ 2 (mi_ 16),
 q_ 3 (.mv bt_),
 q_ 4 (.mv bt_)]
def x87_29 : L_ := [q_ 25 (.bin .eql 5 (ci_ 27)),
 q_ 24 (m_ 25)]
def x87_30 : L_ := [q_ 2 (mi_ 17),
 q_ 3 (.mv bf_),
 q_ 4 (.mv bt_)]
def x87_40 : C_ := .cnd 16 (.seq (r_ x87_18) .ret) (.seq (r_ x87_20) (.cnd 18 (.seq (r_ x87_21) .ret) (.seq (r_ x87_23) (.cnd 20 (.seq (r_ x87_24) .ret) (.seq (r_ x87_26) (.cnd 22 (.seq (r_ x87_27) .ret) (.seq (r_ x87_29) (.cnd 24 (.seq (r_ x87_30) .ret) .skip))))))))
def x87_50 : C_ := .cnd 6 (.seq (r_ x87_3) .ret) (.seq (r_ x87_5) (.cnd 8 (.seq (r_ x87_6) .ret) (.seq (r_ x87_8) (.cnd 10 (.seq (r_ x87_9) .ret) (.seq (r_ x87_11) (.cnd 12 (.seq (r_ x87_12) .ret) (.seq (r_ x87_14) (.cnd 14 (.seq (r_ x87_15) .ret) (.seq (r_ x87_17) x87_40)))))))))
def x87_54 : L_ := [q_ 2 (mi_ 0),
 q_ 3 (.mv bf_),
 q_ 4 (.mv bf_)]
def x87_57 : C_ := .seq (r_ x87_0) (.seq (.seq (r_ x87_1) (.block 0 (.seq (r_ x87_2) x87_50))) (.seq (r_ x87_54) .ret))
def x87 : C_ := x87_57
theorem fx87 : fnx Try.prog 87 = some (26, [(2, none), (3, none), (4, none)], x87) := by kernel_rfl
def x88_0 : L_ := [q_ 2 (mi_ 0)]
def x88_1 : L_ := [q_ 3 (m_ 0)]
def x88_2 : L_ := [q_ 5 (.bin .eql 3 (ci_ 40)),
 q_ 4 (m_ 5)]
def x88_3 : L_ := [q_ 6 (.bin .eql 3 (ci_ 43)),
 q_ 4 (m_ 6)]
def x88_6 : L_ := [q_ 2 (mi_ 4)]
def x88_8 : L_ := [q_ 8 (.bin .eql 3 (ci_ 41)),
 q_ 7 (m_ 8)]
def x88_9 : L_ := [q_ 9 (.bin .eql 3 (ci_ 44)),
 q_ 7 (m_ 9)]
def x88_12 : L_ := [q_ 2 (mi_ 8)]
def x88_20 : L_ := [q_ 2 (mi_ 1)]
def x88_23 : C_ := .seq (r_ x88_0) (.seq (.seq (r_ x88_1) (.block 0 (.seq (.seq (r_ x88_2) (.cnd 4 .skip (r_ x88_3))) (.cnd 4 (.seq (r_ x88_6) .ret) (.seq (.seq (r_ x88_8) (.cnd 7 .skip (r_ x88_9))) (.cnd 7 (.seq (r_ x88_12) .ret) .skip)))))) (.seq (r_ x88_20) .ret))
def x88 : C_ := x88_23
theorem fx88 : fnx Try.prog 88 = some (10, [(2, none)], x88) := by kernel_rfl
def x98_0 : L_ := [q_ 4 (.mv (ck_ .u64 0)),
 q_ 5 (.mv (ck_ .u64 0))]
def x98_1 : L_ := [q_ 14 (m_ 0),
 q_ 15 (.bin .and 14 (ck_ .u64 4294967295)),
 q_ 6 (m_ 15)]
def x98_2 : L_ := [q_ 16 (m_ 0),
 q_ 17 (.bin .shr 16 (ck_ .u64 32)),
 q_ 7 (m_ 17)]
def x98_3 : L_ := [q_ 18 (m_ 1),
 q_ 19 (.bin .and 18 (ck_ .u64 4294967295)),
 q_ 8 (m_ 19)]
def x98_4 : L_ := [q_ 20 (m_ 1),
 q_ 21 (.bin .shr 20 (ck_ .u64 32)),
 q_ 9 (m_ 21)]
def x98_5 : L_ := [q_ 22 (m_ 6),
 q_ 23 (m_ 8),
 q_ 24 (.bin .mul 22 23),
 q_ 10 (m_ 24)]
def x98_6 : L_ := [q_ 25 (m_ 7),
 q_ 26 (m_ 8),
 q_ 27 (.bin .mul 25 26),
 q_ 28 (m_ 10),
 q_ 29 (.bin .shr 28 (ck_ .u64 32)),
 q_ 30 (.bin .add 27 29),
 q_ 11 (m_ 30)]
def x98_7 : L_ := [q_ 31 (m_ 11),
 q_ 32 (.bin .and 31 (ck_ .u64 4294967295)),
 q_ 12 (m_ 32)]
def x98_8 : L_ := [q_ 33 (m_ 11),
 q_ 34 (.bin .shr 33 (ck_ .u64 32)),
 q_ 13 (m_ 34)]
def x98_9 : L_ := [q_ 35 (m_ 12),
 q_ 36 (m_ 6),
 q_ 37 (m_ 9),
 q_ 38 (.bin .mul 36 37),
 q_ 39 (.bin .add 35 38),
 q_ 12 (m_ 39)]
def x98_10 : L_ := [q_ 40 (m_ 7),
 q_ 41 (m_ 9),
 q_ 42 (.bin .mul 40 41),
 q_ 43 (m_ 13),
 q_ 44 (.bin .add 42 43),
 q_ 45 (m_ 12),
 q_ 46 (.bin .shr 45 (ck_ .u64 32)),
 q_ 47 (.bin .add 44 46),
 q_ 4 (m_ 47)]
def x98_11 : L_ := [q_ 48 (m_ 0),
 q_ 49 (m_ 1),
 q_ 50 (.bin .mul 48 49),
 q_ 5 (m_ 50)]
def x98_21 : C_ := .seq (r_ x98_2) (.seq (r_ x98_3) (.seq (r_ x98_4) (.seq (r_ x98_5) (.seq (r_ x98_6) (.seq (r_ x98_7) (.seq (r_ x98_8) (.seq (r_ x98_9) (.seq (r_ x98_10) (.seq (r_ x98_11) .ret)))))))))
def x98_23 : C_ := .seq (r_ x98_0) (.seq (r_ x98_1) x98_21)
def x98 : C_ := x98_23
theorem fx98 : fnx Try.prog 98 = some (51, [(4, none), (5, none)], x98) := by kernel_rfl
def x99_0 : L_ := [q_ 2 (.mv (ck_ .u64 0))]
def x99_1 : L_ := [q_ 3 (m_ 0)]
def x99_2 : L_ := [q_ 2 (.mv (ck_ .u64 1))]
def x99_6 : L_ := [q_ 2 (.mv (ck_ .u64 0))]
def x99_9 : C_ := .seq (r_ x99_0) (.seq (.seq (r_ x99_1) (.cnd 3 (.seq (r_ x99_2) .ret) .skip)) (.seq (r_ x99_6) .ret))
def x99 : C_ := x99_9
theorem fx99 : fnx Try.prog 99 = some (4, [(2, none)], x99) := by kernel_rfl
end Go.X
