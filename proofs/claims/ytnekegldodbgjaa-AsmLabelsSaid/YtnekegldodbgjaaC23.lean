import Derived.Test.YtnekegldodbgjaaC22
import Derived.Test.YtnekegldodbgjaaProg
import Derived.KernelRfl
namespace Go.X
open Go Go.Proofs



def x5_0 : List XOper := [⟨(some 4), .op (.mv (.const (.bool false))), none⟩]
def x5_1 : List XOper := [⟨(some 17), .callF 16 [], none⟩,
  ⟨(some 18), .op (.un .not (.tmp 17)), none⟩]
def x5_2 : List XOper := [⟨(some 4), .op (.mv (.const (.bool false))), none⟩]
def x5_3 : XCode := .seq (.region x5_2) .ret
def x5_4 : XCode := .cnd (.tmp 18) x5_3 .skip
def x5_5 : XCode := .seq (.region x5_1) x5_4
def x5_6 : List XOper := [⟨(some 5), .op (.mv (.const (.slice none 0 0))), none⟩]
def x5_7 : List XOper := [⟨(some 6), .op (.mv (.const (.int .i64 0))), none⟩]
def x5_8 : List XOper := [⟨(some 19), .op (.mv (.tmp 6)), none⟩,
  ⟨(some 20), .op (.mv (.tmp 1)), none⟩,
  ⟨(some 21), .op (.bin .rem (.tmp 20) (.const (.int .u8 20))), none⟩,
  ⟨(some 22), .op (.conv .i64 (.tmp 21)), none⟩,
  ⟨(some 23), .op (.bin .lss (.tmp 19) (.tmp 22)), none⟩]
def x5_9 : XCode := .cnd (.tmp 23) .skip (.exit 0)
def x5_10 : XCode := .seq (.region x5_8) x5_9
def x5_11 : List XOper := [⟨(some 26), .op (.mv (.tmp 5)), none⟩,
  ⟨(some 27), .op (.build [(.int .i64 0), (.int .i64 0), (.int .i64 0), (.int .i64 0), (.int .i64 0)] [(0, 1, (.const (.int .i64 28)))]), none⟩,
  ⟨(some 28), .op (.build [(.string ⟨#[]⟩), (.int .i64 0), (.int .i64 0), (.int .i64 0), (.int .i64 0), (.int .i64 0), (.string ⟨#[]⟩), (.int .i64 0)] [(1, 5, (.tmp 27))]), none⟩,
  ⟨(some 29), .op (.mkslice [(.string ⟨#[]⟩), (.int .i64 0), (.int .i64 0), (.int .i64 0), (.int .i64 0), (.int .i64 0), (.string ⟨#[]⟩), (.int .i64 0)] 1 [(0, (.tmp 28))]), none⟩,
  ⟨(some 30), .op (.app 8 80 (.tmp 26) (.tmp 29)), none⟩,
  ⟨(some 5), .op (.mv (.tmp 30)), none⟩]
def x5_12 : XCode := .block 1 (.region x5_11)
def x5_13 : List XOper := [⟨(some 24), .op (.mv (.tmp 6)), none⟩,
  ⟨(some 25), .op (.bin .add (.tmp 24) (.const (.int .i64 1))), none⟩,
  ⟨(some 6), .op (.mv (.tmp 25)), none⟩]
def x5_14 : XCode := .seq x5_12 (.region x5_13)
def x5_15 : XCode := .seq x5_10 x5_14
def x5_16 : XCode := .loop x5_15
def x5_17 : XCode := .block 0 x5_16
def x5_18 : XCode := .seq (.region x5_7) x5_17
def x5_19 : List XOper := [⟨(some 31), .op (.mv (.tmp 0)), none⟩,
  ⟨(some 32), .op (.bin .rem (.tmp 31) (.const (.int .u8 20))), none⟩,
  ⟨(some 33), .op (.conv .i64 (.tmp 32)), none⟩,
  ⟨(some 34), .op (.bin .add (.tmp 33) (.const (.int .i64 1))), none⟩,
  ⟨(some 7), .op (.mv (.tmp 34)), none⟩]
def x5_20 : List XOper := [⟨(some 8), .op (.mv (.func 19)), none⟩]
def x5_21 : List XOper := [⟨(some 9), .op (.mv (.const (.int .i64 0))), none⟩]
def x5_22 : List XOper := [⟨(some 35), .op (.mv (.tmp 9)), none⟩,
  ⟨(some 36), .op (.mv (.tmp 7)), none⟩,
  ⟨(some 37), .op (.bin .lss (.tmp 35) (.tmp 36)), none⟩]
def x5_23 : XCode := .cnd (.tmp 37) .skip (.exit 2)
def x5_24 : XCode := .seq (.region x5_22) x5_23
def x5_25 : List XOper := [⟨(some 40), .op (.mv (.tmp 5)), none⟩,
  ⟨(some 41), .op (.mv (.tmp 8)), none⟩,
  ⟨(some 42), .op (.mv (.tmp 9)), none⟩,
  ⟨(some 43), .callV (.tmp 41) [(.tmp 42)], none⟩,
  ⟨(some 44), .op (.build [(.string ⟨#[]⟩), (.int .i64 0), (.int .i64 0), (.int .i64 0), (.int .i64 0), (.int .i64 0), (.string ⟨#[]⟩), (.int .i64 0)] [(0, 1, (.tmp 43))]), none⟩,
  ⟨(some 45), .op (.mkslice [(.string ⟨#[]⟩), (.int .i64 0), (.int .i64 0), (.int .i64 0), (.int .i64 0), (.int .i64 0), (.string ⟨#[]⟩), (.int .i64 0)] 1 [(0, (.tmp 44))]), none⟩,
  ⟨(some 46), .op (.app 8 80 (.tmp 40) (.tmp 45)), none⟩,
  ⟨(some 5), .op (.mv (.tmp 46)), none⟩]
def x5_26 : XCode := .block 3 (.region x5_25)
def x5_27 : List XOper := [⟨(some 38), .op (.mv (.tmp 9)), none⟩,
  ⟨(some 39), .op (.bin .add (.tmp 38) (.const (.int .i64 1))), none⟩,
  ⟨(some 9), .op (.mv (.tmp 39)), none⟩]
def x5_28 : XCode := .seq x5_26 (.region x5_27)
def x5_29 : XCode := .seq x5_24 x5_28
def x5_30 : XCode := .loop x5_29
def x5_31 : XCode := .block 2 x5_30
def x5_32 : XCode := .seq (.region x5_21) x5_31
def x5_33 : List XOper := [⟨(some 10), .op (.mv (.const (.int .i64 0))), none⟩]
def x5_34 : List XOper := [⟨(some 47), .op (.mv (.tmp 10)), none⟩,
  ⟨(some 48), .op (.mv (.tmp 7)), none⟩,
  ⟨(some 49), .op (.bin .lss (.tmp 47) (.tmp 48)), none⟩]
def x5_35 : XCode := .cnd (.tmp 49) .skip (.exit 4)
def x5_36 : XCode := .seq (.region x5_34) x5_35
def x5_37 : List XOper := [⟨(some 52), .op (.mv (.tmp 5)), none⟩,
  ⟨(some 53), .op (.build [(.int .i64 0), (.int .i64 0), (.int .i64 0), (.int .i64 0), (.int .i64 0)] [(0, 1, (.const (.int .i64 53)))]), none⟩,
  ⟨(some 54), .op (.mv (.tmp 8)), none⟩,
  ⟨(some 55), .op (.mv (.tmp 10)), none⟩,
  ⟨(some 56), .callV (.tmp 54) [(.tmp 55)], none⟩,
  ⟨(some 57), .op (.build [(.string ⟨#[]⟩), (.int .i64 0), (.int .i64 0), (.int .i64 0), (.int .i64 0), (.int .i64 0), (.string ⟨#[]⟩), (.int .i64 0)] [(1, 5, (.tmp 53)), (6, 1, (.tmp 56))]), none⟩,
  ⟨(some 58), .op (.mkslice [(.string ⟨#[]⟩), (.int .i64 0), (.int .i64 0), (.int .i64 0), (.int .i64 0), (.int .i64 0), (.string ⟨#[]⟩), (.int .i64 0)] 1 [(0, (.tmp 57))]), none⟩,
  ⟨(some 59), .op (.app 8 80 (.tmp 52) (.tmp 58)), none⟩,
  ⟨(some 5), .op (.mv (.tmp 59)), none⟩]
def x5_38 : XCode := .block 5 (.region x5_37)
def x5_39 : List XOper := [⟨(some 50), .op (.mv (.tmp 10)), none⟩,
  ⟨(some 51), .op (.bin .add (.tmp 50) (.const (.int .i64 1))), none⟩,
  ⟨(some 10), .op (.mv (.tmp 51)), none⟩]
def x5_40 : XCode := .seq x5_38 (.region x5_39)
def x5_41 : XCode := .seq x5_36 x5_40
def x5_42 : XCode := .loop x5_41
def x5_43 : XCode := .block 4 x5_42
def x5_44 : XCode := .seq (.region x5_33) x5_43
def x5_45 : List XOper := [⟨(some 61), .op (.mv (.tmp 5)), none⟩,
  ⟨(some 62), .callF 17 [(.tmp 61), (.const (.int .i64 0))], none⟩,
  ⟨(some 60), .op (.mv (.tmp 62)), none⟩,
  ⟨(some 63), .op (.ext (.tmp 60) 0), none⟩,
  ⟨(some 64), .op (.ext (.tmp 60) 1), none⟩,
  ⟨(some 65), .op (.ext (.tmp 60) 2), none⟩,
  ⟨(some 11), .op (.mv (.tmp 63)), none⟩,
  ⟨(some 12), .op (.mv (.tmp 64)), none⟩,
  ⟨(some 13), .op (.mv (.tmp 65)), none⟩]
def x5_46 : List XOper := [⟨(some 66), .op (.mv (.tmp 13)), none⟩,
  ⟨(some 67), .op (.bin .neq (.tmp 66) (.const (.int .i64 0))), none⟩,
  ⟨(some 68), .op (.mv (.tmp 67)), none⟩,
  ⟨(some 69), .op (.mv (.tmp 12)), (some (68, false))⟩,
  ⟨(some 70), .op (.lenM (.tmp 69)), (some (68, false))⟩,
  ⟨(some 71), .op (.mv (.tmp 7)), (some (68, false))⟩,
  ⟨(some 72), .op (.bin .neq (.tmp 70) (.tmp 71)), (some (68, false))⟩,
  ⟨(some 73), .pick (.tmp 68) (.const (.bool true)) (.tmp 72), none⟩,
  ⟨(some 74), .op (.mv (.tmp 73)), none⟩,
  ⟨(some 75), .op (.mv (.tmp 11)), (some (74, false))⟩,
  ⟨(some 76), .op (.lenS (.tmp 75)), (some (74, false))⟩,
  ⟨(some 77), .op (.mv (.tmp 1)), (some (74, false))⟩,
  ⟨(some 78), .op (.bin .rem (.tmp 77) (.const (.int .u8 20))), (some (74, false))⟩,
  ⟨(some 79), .op (.conv .i64 (.tmp 78)), (some (74, false))⟩,
  ⟨(some 80), .op (.mv (.tmp 7)), (some (74, false))⟩,
  ⟨(some 81), .op (.bin .add (.tmp 79) (.tmp 80)), (some (74, false))⟩,
  ⟨(some 82), .op (.bin .neq (.tmp 76) (.tmp 81)), (some (74, false))⟩,
  ⟨(some 83), .pick (.tmp 74) (.const (.bool true)) (.tmp 82), none⟩]
def x5_47 : List XOper := [⟨(some 4), .op (.mv (.const (.bool false))), none⟩]
def x5_48 : XCode := .seq (.region x5_47) .ret
def x5_49 : XCode := .cnd (.tmp 83) x5_48 .skip
def x5_50 : XCode := .seq (.region x5_46) x5_49
def x5_51 : List XOper := [⟨(some 14), .op (.mv (.const (.int .i64 0))), none⟩]
def x5_52 : List XOper := [⟨(some 84), .op (.mv (.tmp 14)), none⟩,
  ⟨(some 85), .op (.mv (.tmp 7)), none⟩,
  ⟨(some 86), .op (.bin .lss (.tmp 84) (.tmp 85)), none⟩]
def x5_53 : XCode := .cnd (.tmp 86) .skip (.exit 6)
def x5_54 : XCode := .seq (.region x5_52) x5_53
def x5_55 : List XOper := [⟨(some 90), .op (.mv (.tmp 11)), none⟩,
  ⟨(some 91), .op (.mv (.tmp 1)), none⟩,
  ⟨(some 92), .op (.bin .rem (.tmp 91) (.const (.int .u8 20))), none⟩,
  ⟨(some 93), .op (.conv .i64 (.tmp 92)), none⟩,
  ⟨(some 94), .op (.mv (.tmp 14)), none⟩,
  ⟨(some 95), .op (.bin .add (.tmp 93) (.tmp 94)), none⟩,
  ⟨(some 96), .op (.iaddrS 1 (.tmp 90) (.tmp 95)), none⟩,
  ⟨(some 97), .op (.load (.int .u32) 1 (.tmp 96)), none⟩,
  ⟨(some 98), .callF 20 [(.tmp 97)], none⟩,
  ⟨(some 89), .op (.mv (.tmp 98)), none⟩,
  ⟨(some 99), .op (.ext (.tmp 89) 0), none⟩,
  ⟨(some 100), .op (.ext (.tmp 89) 1), none⟩,
  ⟨(some 15), .op (.new [(.int .i64 0), (.int .i64 0), (.int .i64 0), (.int .i64 0), (.int .i64 0)]), none⟩,
  ⟨none, .op (.store 5 (.tmp 15) (.tmp 99)), none⟩,
  ⟨(some 16), .op (.mv (.tmp 100)), none⟩]
def x5_56 : List XOper := [⟨(some 101), .op (.mv (.tmp 12)), none⟩,
  ⟨(some 102), .op (.mv (.tmp 8)), none⟩,
  ⟨(some 103), .op (.mv (.tmp 14)), none⟩,
  ⟨(some 104), .callV (.tmp 102) [(.tmp 103)], none⟩,
  ⟨(some 105), .op (.lookup 9 3 .string (.int .i64 0) false (.tmp 101) (.tmp 104)), none⟩,
  ⟨(some 106), .op (.mv (.tmp 1)), none⟩,
  ⟨(some 107), .op (.bin .rem (.tmp 106) (.const (.int .u8 20))), none⟩,
  ⟨(some 108), .op (.conv .i64 (.tmp 107)), none⟩,
  ⟨(some 109), .op (.bin .mul (.const (.int .i64 4)) (.tmp 108)), none⟩,
  ⟨(some 110), .op (.bin .neq (.tmp 105) (.tmp 109)), none⟩,
  ⟨(some 111), .op (.mv (.tmp 110)), none⟩,
  ⟨(some 112), .op (.mv (.tmp 16)), (some (111, false))⟩,
  ⟨(some 113), .op (.bin .neq (.tmp 112) (.const (.int .i64 0))), (some (111, false))⟩,
  ⟨(some 114), .pick (.tmp 111) (.const (.bool true)) (.tmp 113), none⟩,
  ⟨(some 115), .op (.mv (.tmp 114)), none⟩,
  ⟨(some 116), .op (.load .agg 5 (.tmp 15)), (some (115, false))⟩,
  ⟨(some 117), .op (.mv (.tmp 14)), (some (115, false))⟩,
  ⟨(some 118), .op (.bin .mul (.const (.int .i64 (-4))) (.tmp 117)), (some (115, false))⟩,
  ⟨(some 119), .op (.build [(.int .i64 0), (.int .i64 0), (.int .i64 0), (.int .i64 0), (.int .i64 0)] [(0, 1, (.const (.int .i64 53))), (4, 1, (.tmp 118))]), (some (115, false))⟩,
  ⟨(some 120), .op (.eqagg true [0, 0, 0, 0, 0] (.tmp 116) (.tmp 119)), (some (115, false))⟩,
  ⟨(some 121), .pick (.tmp 115) (.const (.bool true)) (.tmp 120), none⟩]
def x5_57 : List XOper := [⟨(some 4), .op (.mv (.const (.bool false))), none⟩]
def x5_58 : XCode := .seq (.region x5_57) .ret
def x5_59 : XCode := .cnd (.tmp 121) x5_58 .skip
def x5_60 : XCode := .seq (.region x5_56) x5_59
def x5_61 : XCode := .seq (.region x5_55) x5_60
def x5_62 : XCode := .block 7 x5_61
def x5_63 : List XOper := [⟨(some 87), .op (.mv (.tmp 14)), none⟩,
  ⟨(some 88), .op (.bin .add (.tmp 87) (.const (.int .i64 1))), none⟩,
  ⟨(some 14), .op (.mv (.tmp 88)), none⟩]
def x5_64 : XCode := .seq x5_62 (.region x5_63)
def x5_65 : XCode := .seq x5_54 x5_64
def x5_66 : XCode := .loop x5_65
def x5_67 : XCode := .block 6 x5_66
def x5_68 : XCode := .seq (.region x5_51) x5_67
def x5_69 : List XOper := [⟨(some 4), .op (.mv (.const (.bool true))), none⟩]
def x5_70 : XCode := .seq (.region x5_69) .ret
def x5_71 : XCode := .seq x5_68 x5_70
def x5_72 : XCode := .seq x5_50 x5_71
def x5_73 : XCode := .seq (.region x5_45) x5_72
def x5_74 : XCode := .seq x5_44 x5_73
def x5_75 : XCode := .seq x5_32 x5_74
def x5_76 : XCode := .seq (.region x5_20) x5_75
def x5_77 : XCode := .seq (.region x5_19) x5_76
def x5_78 : XCode := .seq x5_18 x5_77
def x5_79 : XCode := .seq (.region x5_6) x5_78
def x5_80 : XCode := .seq x5_5 x5_79
def x5_81 : XCode := .seq (.region x5_0) x5_80
def x5 : XCode := x5_81
theorem fx5 : fnx Try.prog 5 = some (122, [(4, none)], x5) := by kernel_rfl
def x16_0 : List XOper := [⟨(some 0), .op (.mv (.const (.bool false))), none⟩]
def x16_1 : List XOper := [⟨(some 5), .op (.build [(.string ⟨#[]⟩), (.int .i64 0), (.int .i64 0), (.int .i64 0), (.int .i64 0), (.int .i64 0), (.string ⟨#[]⟩), (.int .i64 0)] [(0, 1, (.const (.string ⟨#[120]⟩)))]), none⟩,
  ⟨(some 6), .op (.build [(.int .i64 0), (.int .i64 0), (.int .i64 0), (.int .i64 0), (.int .i64 0)] [(0, 1, (.const (.int .i64 53)))]), none⟩,
  ⟨(some 7), .op (.build [(.string ⟨#[]⟩), (.int .i64 0), (.int .i64 0), (.int .i64 0), (.int .i64 0), (.int .i64 0), (.string ⟨#[]⟩), (.int .i64 0)] [(1, 5, (.tmp 6)), (6, 1, (.const (.string ⟨#[120]⟩)))]), none⟩,
  ⟨(some 8), .op (.mkslice [(.string ⟨#[]⟩), (.int .i64 0), (.int .i64 0), (.int .i64 0), (.int .i64 0), (.int .i64 0), (.string ⟨#[]⟩), (.int .i64 0)] 2 [(0, (.tmp 5)), (1, (.tmp 7))]), none⟩,
  ⟨(some 9), .callF 17 [(.tmp 8), (.const (.int .i64 8))], none⟩,
  ⟨(some 4), .op (.mv (.tmp 9)), none⟩,
  ⟨(some 10), .op (.ext (.tmp 4) 0), none⟩,
  ⟨(some 11), .op (.ext (.tmp 4) 1), none⟩,
  ⟨(some 12), .op (.ext (.tmp 4) 2), none⟩,
  ⟨(some 1), .op (.mv (.tmp 10)), none⟩,
  ⟨(some 2), .op (.mv (.tmp 11)), none⟩,
  ⟨(some 3), .op (.mv (.tmp 12)), none⟩]
def x16_2 : List XOper := [⟨(some 13), .op (.mv (.tmp 3)), none⟩,
  ⟨(some 14), .op (.bin .eql (.tmp 13) (.const (.int .i64 0))), none⟩,
  ⟨(some 15), .op (.mv (.tmp 14)), none⟩,
  ⟨(some 16), .op (.mv (.tmp 1)), (some (15, true))⟩,
  ⟨(some 17), .op (.lenS (.tmp 16)), (some (15, true))⟩,
  ⟨(some 18), .op (.bin .eql (.tmp 17) (.const (.int .i64 1))), (some (15, true))⟩,
  ⟨(some 19), .pick (.tmp 15) (.tmp 18) (.const (.bool false)), none⟩,
  ⟨(some 20), .op (.mv (.tmp 19)), none⟩,
  ⟨(some 21), .op (.mv (.tmp 1)), (some (20, true))⟩,
  ⟨(some 22), .op (.iaddrS 1 (.tmp 21) (.const (.int .i64 0))), (some (20, true))⟩,
  ⟨(some 23), .op (.load (.int .u32) 1 (.tmp 22)), (some (20, true))⟩,
  ⟨(some 24), .op (.bin .eql (.tmp 23) (.const (.int .u32 111))), (some (20, true))⟩,
  ⟨(some 25), .pick (.tmp 20) (.tmp 24) (.const (.bool false)), none⟩,
  ⟨(some 26), .op (.mv (.tmp 25)), none⟩,
  ⟨(some 27), .op (.mv (.tmp 2)), (some (26, true))⟩,
  ⟨(some 28), .op (.lookup 9 3 .string (.int .i64 0) false (.tmp 27) (.const (.string ⟨#[120]⟩))), (some (26, true))⟩,
  ⟨(some 29), .op (.bin .eql (.tmp 28) (.const (.int .i64 8))), (some (26, true))⟩,
  ⟨(some 30), .pick (.tmp 26) (.tmp 29) (.const (.bool false)), none⟩,
  ⟨(some 0), .op (.mv (.tmp 30)), none⟩]
def x16_3 : XCode := .seq (.region x16_2) .ret
def x16_4 : XCode := .seq (.region x16_1) x16_3
def x16_5 : XCode := .seq (.region x16_0) x16_4
def x16 : XCode := x16_5
theorem fx16 : fnx Try.prog 16 = some (31, [(0, none)], x16) := by kernel_rfl
def x17_0 : List XOper := [⟨(some 4), .op (.mv (.const (.slice none 0 0))), none⟩,
  ⟨(some 5), .op (.mv (.const (.map none))), none⟩,
  ⟨(some 6), .op (.mv (.const (.int .i64 0))), none⟩]
def x17_1 : List XOper := [⟨(some 16), .op (.mv (.tmp 0)), none⟩,
  ⟨(some 17), .op (.mv (.tmp 0)), none⟩,
  ⟨(some 18), .op (.lenS (.tmp 17)), none⟩,
  ⟨(some 19), .op (.mks [(.bool false)] 1 (.tmp 18) (.tmp 18)), none⟩,
  ⟨(some 20), .op (.mv (.tmp 1)), none⟩,
  ⟨(some 21), .op (.mkmap 9 3 (.int .i64 0)), none⟩,
  ⟨(some 22), .op (.mv (.tmp 0)), none⟩,
  ⟨(some 23), .op (.lenS (.tmp 22)), none⟩,
  ⟨(some 24), .op (.mks [(.int .i64 0)] 8 (.tmp 23) (.tmp 23)), none⟩,
  ⟨(some 25), .op (.build [(.slice none 0 0), (.slice none 0 0), (.int .i64 0), (.map none), (.slice none 0 0)] [(0, 1, (.tmp 16)), (1, 1, (.tmp 19)), (2, 1, (.tmp 20)), (3, 1, (.tmp 21)), (4, 1, (.tmp 24))]), none⟩,
  ⟨(some 26), .op (.box (.tmp 25)), none⟩,
  ⟨(some 7), .op (.mv (.tmp 26)), none⟩]
def x17_2 : List XOper := [⟨(some 27), .op (.mv (.tmp 7)), none⟩,
  ⟨(some 28), .callF 39 [(.tmp 27)], none⟩,
  ⟨(some 8), .op (.mv (.tmp 28)), none⟩]
def x17_3 : List XOper := [⟨(some 29), .op (.mv (.tmp 8)), none⟩,
  ⟨(some 30), .op (.bin .neq (.tmp 29) (.const (.int .i64 0))), none⟩]
def x17_4 : List XOper := [⟨(some 31), .op (.mv (.tmp 8)), none⟩,
  ⟨(some 4), .op (.mv (.const (.slice none 0 0))), none⟩,
  ⟨(some 5), .op (.mv (.const (.map none))), none⟩,
  ⟨(some 6), .op (.mv (.tmp 31)), none⟩]
def x17_5 : XCode := .seq (.region x17_4) .ret
def x17_6 : XCode := .cnd (.tmp 30) x17_5 .skip
def x17_7 : XCode := .seq (.region x17_3) x17_6
def x17_8 : XCode := .seq (.region x17_2) x17_7
def x17_9 : List XOper := [⟨(some 32), .op (.mv (.tmp 7)), none⟩,
  ⟨(some 33), .callF 40 [(.tmp 32)], none⟩]
def x17_10 : List XOper := [⟨(some 34), .op (.mv (.tmp 7)), none⟩,
  ⟨(some 35), .callF 41 [(.tmp 34)], none⟩]
def x17_11 : XCode := .cnd (.tmp 35) .skip (.exit 0)
def x17_12 : XCode := .seq (.region x17_10) x17_11
def x17_13 : List XOper := [⟨(some 36), .op (.mv (.tmp 7)), none⟩,
  ⟨(some 37), .callF 40 [(.tmp 36)], none⟩]
def x17_14 : XCode := .block 1 (.region x17_13)
def x17_15 : XCode := .seq x17_12 x17_14
def x17_16 : XCode := .loop x17_15
def x17_17 : XCode := .block 0 x17_16
def x17_18 : List XOper := [⟨(some 9), .op (.mv (.const (.slice none 0 0))), none⟩]
def x17_19 : List XOper := [⟨(some 38), .op (.mv (.tmp 0)), none⟩,
  ⟨(some 39), .op (.lenS (.tmp 38)), none⟩,
  ⟨(some 40), .op (.mv (.const (.int .i64 0))), none⟩]
def x17_20 : List XOper := [⟨(some 41), .op (.bin .lss (.tmp 40) (.tmp 39)), none⟩]
def x17_21 : XCode := .cnd (.tmp 41) .skip (.exit 2)
def x17_22 : List XOper := [⟨(some 42), .op (.mv (.tmp 40)), none⟩,
  ⟨(some 43), .op (.iaddrS 8 (.tmp 38) (.tmp 40)), none⟩,
  ⟨(some 44), .op (.load .agg 8 (.tmp 43)), none⟩,
  ⟨(some 11), .op (.new [(.string ⟨#[]⟩), (.int .i64 0), (.int .i64 0), (.int .i64 0), (.int .i64 0), (.int .i64 0), (.string ⟨#[]⟩), (.int .i64 0)]), none⟩,
  ⟨(some 10), .op (.mv (.tmp 42)), none⟩,
  ⟨none, .op (.store 8 (.tmp 11) (.tmp 44)), none⟩]
def x17_23 : List XOper := [⟨(some 45), .op (.faddr 0 (.tmp 11)), none⟩,
  ⟨(some 46), .op (.load .str 1 (.tmp 45)), none⟩,
  ⟨(some 47), .op (.bin .neq (.tmp 46) (.const (.string ⟨#[]⟩))), none⟩]
def x17_24 : XCode := .cnd (.tmp 47) (.exit 3) .skip
def x17_25 : XCode := .seq (.region x17_23) x17_24
def x17_26 : List XOper := [⟨(some 48), .op (.mv (.tmp 7)), none⟩,
  ⟨(some 49), .op (.mv (.tmp 10)), none⟩,
  ⟨(some 50), .callF 42 [(.tmp 48), (.tmp 49)], none⟩,
  ⟨(some 51), .op (.lenS (.tmp 50)), none⟩,
  ⟨(some 52), .op (.mv (.const (.int .i64 0))), none⟩]
def x17_27 : List XOper := [⟨(some 53), .op (.bin .lss (.tmp 52) (.tmp 51)), none⟩]
def x17_28 : XCode := .cnd (.tmp 53) .skip (.exit 4)
def x17_29 : List XOper := [⟨(some 54), .op (.iaddrS 5 (.tmp 50) (.tmp 52)), none⟩,
  ⟨(some 55), .op (.load .agg 5 (.tmp 54)), none⟩,
  ⟨(some 13), .op (.new [(.int .i64 0), (.int .i64 0), (.int .i64 0), (.int .i64 0), (.int .i64 0)]), none⟩,
  ⟨none, .op (.store 5 (.tmp 13) (.tmp 55)), none⟩]
def x17_30 : List XOper := [⟨(some 57), .op (.load .agg 5 (.tmp 13)), none⟩,
  ⟨(some 58), .callF 18 [(.tmp 57)], none⟩,
  ⟨(some 56), .op (.mv (.tmp 58)), none⟩,
  ⟨(some 59), .op (.ext (.tmp 56) 0), none⟩,
  ⟨(some 60), .op (.ext (.tmp 56) 1), none⟩,
  ⟨(some 14), .op (.mv (.tmp 59)), none⟩,
  ⟨(some 15), .op (.mv (.tmp 60)), none⟩]
def x17_31 : List XOper := [⟨(some 61), .op (.mv (.tmp 15)), none⟩,
  ⟨(some 62), .op (.bin .neq (.tmp 61) (.const (.int .i64 0))), none⟩]
def x17_32 : List XOper := [⟨(some 4), .op (.mv (.const (.slice none 0 0))), none⟩,
  ⟨(some 5), .op (.mv (.const (.map none))), none⟩,
  ⟨(some 6), .op (.mv (.const (.int .i64 16))), none⟩]
def x17_33 : XCode := .seq (.region x17_32) .ret
def x17_34 : XCode := .cnd (.tmp 62) x17_33 .skip
def x17_35 : XCode := .seq (.region x17_31) x17_34
def x17_36 : List XOper := [⟨(some 63), .op (.mv (.tmp 9)), none⟩,
  ⟨(some 64), .op (.mv (.tmp 14)), none⟩,
  ⟨(some 65), .op (.mkslice [(.int .u32 0)] 1 [(0, (.tmp 64))]), none⟩,
  ⟨(some 66), .op (.app 1 4 (.tmp 63) (.tmp 65)), none⟩,
  ⟨(some 9), .op (.mv (.tmp 66)), none⟩]
def x17_37 : XCode := .seq x17_35 (.region x17_36)
def x17_38 : XCode := .seq (.region x17_30) x17_37
def x17_39 : XCode := .seq (.region x17_29) x17_38
def x17_40 : XCode := .block 5 x17_39
def x17_41 : List XOper := [⟨(some 67), .op (.bin .add (.tmp 52) (.const (.int .i64 1))), none⟩,
  ⟨(some 52), .op (.mv (.tmp 67)), none⟩]
def x17_42 : XCode := .seq x17_40 (.region x17_41)
def x17_43 : XCode := .seq x17_28 x17_42
def x17_44 : XCode := .seq (.region x17_27) x17_43
def x17_45 : XCode := .loop x17_44
def x17_46 : XCode := .block 4 x17_45
def x17_47 : XCode := .seq (.region x17_26) x17_46
def x17_48 : XCode := .seq x17_25 x17_47
def x17_49 : XCode := .seq (.region x17_22) x17_48
def x17_50 : XCode := .block 3 x17_49
def x17_51 : List XOper := [⟨(some 68), .op (.bin .add (.tmp 40) (.const (.int .i64 1))), none⟩,
  ⟨(some 40), .op (.mv (.tmp 68)), none⟩]
def x17_52 : XCode := .seq x17_50 (.region x17_51)
def x17_53 : XCode := .seq x17_21 x17_52
def x17_54 : XCode := .seq (.region x17_20) x17_53
def x17_55 : XCode := .loop x17_54
def x17_56 : XCode := .block 2 x17_55
def x17_57 : XCode := .seq (.region x17_19) x17_56
def x17_58 : List XOper := [⟨(some 69), .op (.mv (.tmp 9)), none⟩,
  ⟨(some 70), .op (.lenS (.tmp 69)), none⟩,
  ⟨(some 71), .op (.bin .gtr (.tmp 70) (.const (.int .i64 65536))), none⟩]
def x17_59 : List XOper := [⟨(some 4), .op (.mv (.const (.slice none 0 0))), none⟩,
  ⟨(some 5), .op (.mv (.const (.map none))), none⟩,
  ⟨(some 6), .op (.mv (.const (.int .i64 3))), none⟩]
def x17_60 : XCode := .seq (.region x17_59) .ret
def x17_61 : XCode := .cnd (.tmp 71) x17_60 .skip
def x17_62 : XCode := .seq (.region x17_58) x17_61
def x17_63 : List XOper := [⟨(some 72), .op (.mv (.tmp 9)), none⟩,
  ⟨(some 73), .op (.mv (.tmp 7)), none⟩,
  ⟨(some 74), .op (.nilck (.tmp 73)), none⟩,
  ⟨(some 75), .op (.faddr 3 (.tmp 74)), none⟩,
  ⟨(some 76), .op (.load .one 1 (.tmp 75)), none⟩,
  ⟨(some 4), .op (.mv (.tmp 72)), none⟩,
  ⟨(some 5), .op (.mv (.tmp 76)), none⟩,
  ⟨(some 6), .op (.mv (.const (.int .i64 0))), none⟩]
def x17_64 : XCode := .seq (.draw x17_63 [[], [], [1], [1, 2], [1, 2, 3], [0], [0, 1, 2, 3, 4, 5], [0, 1, 2, 3, 4, 5, 6]]) .ret
def x17_65 : XCode := .seq x17_62 x17_64
def x17_66 : XCode := .seq x17_57 x17_65
def x17_67 : XCode := .seq (.region x17_18) x17_66
def x17_68 : XCode := .seq x17_17 x17_67
def x17_69 : XCode := .seq (.region x17_9) x17_68
def x17_70 : XCode := .seq x17_8 x17_69
def x17_71 : XCode := .seq (.draw x17_1 [[], [], [1], [1, 2], [], [], [], [6], [6, 7], [0, 1, 2, 3, 4, 5, 6, 7, 8], [0, 1, 2, 3, 4, 5, 6, 7, 8, 9], [0, 1, 2, 3, 4, 5, 6, 7, 8, 9, 10]]) x17_70
def x17_72 : XCode := .seq (.region x17_0) x17_71
def x17 : XCode := x17_72
theorem fx17 : fnx Try.prog 17 = some (77, [(4, none), (5, none), (6, none)], x17) := by kernel_rfl
def x18_0 : List XOper := [⟨(some 1), .op (.box (.tmp 0)), none⟩,
  ⟨(some 2), .op (.mv (.const (.int .u32 0))), none⟩,
  ⟨(some 3), .op (.mv (.const (.int .i64 0))), none⟩]
def x18_1 : List XOper := [⟨(some 18), .callF 43 [], none⟩,
  ⟨(some 19), .op (.faddr 0 (.tmp 1)), none⟩,
  ⟨(some 20), .op (.load (.int .i64) 1 (.tmp 19)), none⟩,
  ⟨(some 21), .op (.lookup 3 104 (.int .i64) (.agg #[(.int .u8 0), (.int .u32 0), (.int .u32 0), (.int .u32 0)]) true (.tmp 18) (.tmp 20)), none⟩,
  ⟨(some 17), .op (.mv (.tmp 21)), none⟩,
  ⟨(some 22), .op (.ext (.tmp 17) 0), none⟩,
  ⟨(some 23), .op (.ext (.tmp 17) 1), none⟩,
  ⟨(some 4), .op (.new [(.int .u8 0), (.int .u32 0), (.int .u32 0), (.int .u32 0)]), none⟩,
  ⟨none, .op (.store 4 (.tmp 4) (.tmp 22)), none⟩,
  ⟨(some 5), .op (.mv (.tmp 23)), none⟩]
def x18_2 : List XOper := [⟨(some 25), .op (.faddr 0 (.tmp 4)), none⟩,
  ⟨(some 26), .op (.load (.int .u8) 1 (.tmp 25)), none⟩,
  ⟨(some 27), .callF 44 [(.tmp 26)], none⟩,
  ⟨(some 24), .op (.mv (.tmp 27)), none⟩,
  ⟨(some 28), .op (.ext (.tmp 24) 0), none⟩,
  ⟨(some 29), .op (.ext (.tmp 24) 1), none⟩,
  ⟨(some 6), .op (.mv (.tmp 28)), none⟩,
  ⟨(some 7), .op (.mv (.tmp 29)), none⟩]
def x18_3 : List XOper := [⟨(some 30), .op (.faddr 1 (.tmp 1)), none⟩,
  ⟨(some 31), .op (.load (.int .i64) 1 (.tmp 30)), none⟩,
  ⟨(some 32), .op (.faddr 2 (.tmp 1)), none⟩,
  ⟨(some 33), .op (.load (.int .i64) 1 (.tmp 32)), none⟩,
  ⟨(some 34), .op (.faddr 3 (.tmp 1)), none⟩,
  ⟨(some 35), .op (.load (.int .i64) 1 (.tmp 34)), none⟩,
  ⟨(some 36), .op (.build [(.int .i64 0), (.int .i64 0), (.int .i64 0)] [(0, 1, (.tmp 31)), (1, 1, (.tmp 33)), (2, 1, (.tmp 35))]), none⟩,
  ⟨(some 8), .op (.new [(.int .i64 0), (.int .i64 0), (.int .i64 0)]), none⟩,
  ⟨none, .op (.store 3 (.tmp 8) (.tmp 36)), none⟩]
def x18_4 : List XOper := [⟨(some 37), .op (.faddr 0 (.tmp 4)), none⟩,
  ⟨(some 38), .op (.load (.int .u8) 1 (.tmp 37)), none⟩,
  ⟨(some 39), .callF 45 [(.tmp 38)], none⟩,
  ⟨(some 40), .op (.mv (.const (.int .i64 0))), none⟩]
def x18_5 : List XOper := [⟨(some 41), .op (.bin .lss (.tmp 40) (.const (.int .i64 3))), none⟩]
def x18_6 : XCode := .cnd (.tmp 41) .skip (.exit 0)
def x18_7 : List XOper := [⟨(some 42), .op (.mv (.tmp 40)), none⟩,
  ⟨(some 43), .op (.idxA 3 1 .bool (.tmp 39) (.tmp 40)), none⟩,
  ⟨(some 9), .op (.mv (.tmp 42)), none⟩,
  ⟨(some 10), .op (.mv (.tmp 43)), none⟩]
def x18_8 : List XOper := [⟨(some 44), .op (.mv (.tmp 5)), none⟩,
  ⟨(some 45), .op (.mv (.tmp 44)), none⟩,
  ⟨(some 46), .op (.mv (.tmp 10)), (some (45, true))⟩,
  ⟨(some 47), .op (.mv (.tmp 46)), (some (45, true))⟩,
  ⟨(some 48), .op (.mv (.tmp 9)), (some (47, false))⟩,
  ⟨(some 49), .op (.iaddrA true 3 1 (.tmp 8) (.tmp 48)), (some (47, false))⟩,
  ⟨(some 50), .op (.load (.int .i64) 1 (.tmp 49)), (some (47, false))⟩,
  ⟨(some 51), .op (.bin .eql (.tmp 50) (.const (.int .i64 0))), (some (47, false))⟩,
  ⟨(some 52), .pick (.tmp 47) (.const (.bool true)) (.tmp 51), (some (45, true))⟩,
  ⟨(some 53), .pick (.tmp 45) (.tmp 52) (.const (.bool false)), none⟩,
  ⟨(some 5), .op (.mv (.tmp 53)), none⟩]
def x18_9 : XCode := .seq (.region x18_7) (.region x18_8)
def x18_10 : XCode := .block 1 x18_9
def x18_11 : List XOper := [⟨(some 54), .op (.bin .add (.tmp 40) (.const (.int .i64 1))), none⟩,
  ⟨(some 40), .op (.mv (.tmp 54)), none⟩]
def x18_12 : XCode := .seq x18_10 (.region x18_11)
def x18_13 : XCode := .seq x18_6 x18_12
def x18_14 : XCode := .seq (.region x18_5) x18_13
def x18_15 : XCode := .loop x18_14
def x18_16 : XCode := .block 0 x18_15
def x18_17 : XCode := .seq (.region x18_4) x18_16
def x18_18 : List XOper := [⟨(some 55), .op (.mv (.tmp 5)), none⟩,
  ⟨(some 56), .op (.un .not (.tmp 55)), none⟩,
  ⟨(some 57), .op (.mv (.tmp 56)), none⟩,
  ⟨(some 58), .op (.mv (.tmp 6)), (some (57, false))⟩,
  ⟨(some 59), .op (.mv (.tmp 7)), (some (57, false))⟩,
  ⟨(some 60), .op (.bin .gtr (.tmp 58) (.tmp 59)), (some (57, false))⟩,
  ⟨(some 61), .op (.mv (.tmp 60)), (some (57, false))⟩,
  ⟨(some 62), .op (.faddr 4 (.tmp 1)), (some (61, true))⟩,
  ⟨(some 63), .op (.load (.int .i64) 1 (.tmp 62)), (some (61, true))⟩,
  ⟨(some 64), .op (.bin .neq (.tmp 63) (.const (.int .i64 0))), (some (61, true))⟩,
  ⟨(some 65), .pick (.tmp 61) (.tmp 64) (.const (.bool false)), (some (57, false))⟩,
  ⟨(some 66), .pick (.tmp 57) (.const (.bool true)) (.tmp 65), none⟩]
def x18_19 : List XOper := [⟨(some 2), .op (.mv (.const (.int .u32 0))), none⟩,
  ⟨(some 3), .op (.mv (.const (.int .i64 2))), none⟩]
def x18_20 : XCode := .seq (.region x18_19) .ret
def x18_21 : XCode := .cnd (.tmp 66) x18_20 .skip
def x18_22 : XCode := .seq (.region x18_18) x18_21
def x18_23 : List XOper := [⟨(some 67), .op (.faddr 1 (.tmp 4)), none⟩,
  ⟨(some 68), .op (.faddr 0 (.tmp 67)), none⟩,
  ⟨(some 69), .op (.load (.int .u32) 1 (.tmp 68)), none⟩,
  ⟨(some 70), .op (.faddr 1 (.tmp 4)), none⟩,
  ⟨(some 71), .op (.faddr 1 (.tmp 70)), none⟩,
  ⟨(some 72), .op (.load (.int .u32) 1 (.tmp 71)), none⟩,
  ⟨(some 73), .op (.bin .shl (.tmp 72) (.const (.int .u64 12))), none⟩,
  ⟨(some 74), .op (.bin .or (.tmp 69) (.tmp 73)), none⟩,
  ⟨(some 75), .op (.faddr 1 (.tmp 4)), none⟩,
  ⟨(some 76), .op (.faddr 2 (.tmp 75)), none⟩,
  ⟨(some 77), .op (.load (.int .u32) 1 (.tmp 76)), none⟩,
  ⟨(some 78), .op (.bin .shl (.tmp 77) (.const (.int .u64 25))), none⟩,
  ⟨(some 79), .op (.bin .or (.tmp 74) (.tmp 78)), none⟩,
  ⟨(some 11), .op (.mv (.tmp 79)), none⟩]
def x18_24 : List XOper := [⟨(some 80), .op (.load .agg 3 (.tmp 8)), none⟩,
  ⟨(some 81), .op (.mv (.const (.int .i64 0))), none⟩]
def x18_25 : List XOper := [⟨(some 82), .op (.bin .lss (.tmp 81) (.const (.int .i64 3))), none⟩]
def x18_26 : XCode := .cnd (.tmp 82) .skip (.exit 2)
def x18_27 : List XOper := [⟨(some 83), .op (.mv (.tmp 81)), none⟩,
  ⟨(some 84), .op (.idxA 3 1 (.int .i64) (.tmp 80) (.tmp 81)), none⟩,
  ⟨(some 12), .op (.mv (.tmp 83)), none⟩,
  ⟨(some 13), .op (.mv (.tmp 84)), none⟩]
def x18_28 : List XOper := [⟨(some 85), .op (.mv (.tmp 13)), none⟩,
  ⟨(some 86), .op (.bin .lss (.tmp 85) (.const (.int .i64 0))), none⟩,
  ⟨(some 87), .op (.mv (.tmp 86)), none⟩,
  ⟨(some 88), .op (.mv (.tmp 13)), (some (87, false))⟩,
  ⟨(some 89), .op (.bin .gtr (.tmp 88) (.const (.int .i64 31))), (some (87, false))⟩,
  ⟨(some 90), .pick (.tmp 87) (.const (.bool true)) (.tmp 89), none⟩]
def x18_29 : List XOper := [⟨(some 2), .op (.mv (.const (.int .u32 0))), none⟩,
  ⟨(some 3), .op (.mv (.const (.int .i64 1))), none⟩]
def x18_30 : XCode := .seq (.region x18_29) .ret
def x18_31 : XCode := .cnd (.tmp 90) x18_30 .skip
def x18_32 : XCode := .seq (.region x18_28) x18_31
def x18_33 : List XOper := [⟨(some 91), .op (.mv (.tmp 11)), none⟩,
  ⟨(some 92), .op (.mv (.tmp 13)), none⟩,
  ⟨(some 93), .op (.conv .u32 (.tmp 92)), none⟩,
  ⟨(some 94), .op (.build [(.int .u64 0), (.int .u64 0), (.int .u64 0)] [(0, 1, (.const (.int .u64 7))), (1, 1, (.const (.int .u64 15))), (2, 1, (.const (.int .u64 20)))]), none⟩,
  ⟨(some 95), .op (.mv (.tmp 12)), none⟩,
  ⟨(some 96), .op (.idxA 3 1 (.int .u64) (.tmp 94) (.tmp 95)), none⟩,
  ⟨(some 97), .op (.bin .shl (.tmp 93) (.tmp 96)), none⟩,
  ⟨(some 98), .op (.bin .or (.tmp 91) (.tmp 97)), none⟩,
  ⟨(some 11), .op (.mv (.tmp 98)), none⟩]
def x18_34 : XCode := .seq x18_32 (.region x18_33)
def x18_35 : XCode := .seq (.region x18_27) x18_34
def x18_36 : XCode := .block 3 x18_35
def x18_37 : List XOper := [⟨(some 99), .op (.bin .add (.tmp 81) (.const (.int .i64 1))), none⟩,
  ⟨(some 81), .op (.mv (.tmp 99)), none⟩]
def x18_38 : XCode := .seq x18_36 (.region x18_37)
def x18_39 : XCode := .seq x18_26 x18_38
def x18_40 : XCode := .seq (.region x18_25) x18_39
def x18_41 : XCode := .loop x18_40
def x18_42 : XCode := .block 2 x18_41
def x18_43 : XCode := .seq (.region x18_24) x18_42
def x18_44 : List XOper := [⟨(some 100), .op (.faddr 0 (.tmp 4)), none⟩,
  ⟨(some 101), .op (.load (.int .u8) 1 (.tmp 100)), none⟩,
  ⟨(some 102), .op (.bin .eql (.tmp 101) (.const (.int .u8 66))), none⟩,
  ⟨(some 103), .op (.mv (.tmp 102)), none⟩,
  ⟨(some 104), .op (.faddr 0 (.tmp 4)), (some (103, false))⟩,
  ⟨(some 105), .op (.load (.int .u8) 1 (.tmp 104)), (some (103, false))⟩,
  ⟨(some 106), .op (.bin .eql (.tmp 105) (.const (.int .u8 74))), (some (103, false))⟩,
  ⟨(some 107), .pick (.tmp 103) (.const (.bool true)) (.tmp 106), none⟩,
  ⟨(some 108), .op (.mv (.tmp 107)), none⟩,
  ⟨(some 109), .op (.faddr 4 (.tmp 1)), (some (108, true))⟩,
  ⟨(some 110), .op (.load (.int .i64) 1 (.tmp 109)), (some (108, true))⟩,
  ⟨(some 111), .op (.bin .and (.tmp 110) (.const (.int .i64 1))), (some (108, true))⟩,
  ⟨(some 112), .op (.bin .eql (.tmp 111) (.const (.int .i64 1))), (some (108, true))⟩,
  ⟨(some 113), .pick (.tmp 108) (.tmp 112) (.const (.bool false)), none⟩,
  ⟨(some 14), .op (.mv (.tmp 113)), none⟩]
def x18_45 : List XOper := [⟨(some 114), .op (.mv (.tmp 6)), none⟩,
  ⟨(some 115), .op (.mv (.tmp 7)), none⟩,
  ⟨(some 116), .op (.bin .leq (.tmp 114) (.tmp 115)), none⟩,
  ⟨(some 117), .op (.mv (.tmp 116)), none⟩,
  ⟨(some 118), .op (.faddr 4 (.tmp 1)), (some (117, true))⟩,
  ⟨(some 119), .op (.load (.int .i64) 1 (.tmp 118)), (some (117, true))⟩,
  ⟨(some 120), .op (.mv (.tmp 6)), (some (117, true))⟩,
  ⟨(some 121), .op (.bin .lss (.tmp 119) (.tmp 120)), (some (117, true))⟩,
  ⟨(some 122), .op (.mv (.tmp 121)), (some (117, true))⟩,
  ⟨(some 123), .op (.faddr 4 (.tmp 1)), (some (122, false))⟩,
  ⟨(some 124), .op (.load (.int .i64) 1 (.tmp 123)), (some (122, false))⟩,
  ⟨(some 125), .op (.mv (.tmp 7)), (some (122, false))⟩,
  ⟨(some 126), .op (.bin .gtr (.tmp 124) (.tmp 125)), (some (122, false))⟩,
  ⟨(some 127), .pick (.tmp 122) (.const (.bool true)) (.tmp 126), (some (117, true))⟩,
  ⟨(some 128), .op (.mv (.tmp 127)), (some (117, true))⟩,
  ⟨(some 129), .op (.mv (.tmp 14)), (some (128, false))⟩,
  ⟨(some 130), .pick (.tmp 128) (.const (.bool true)) (.tmp 129), (some (117, true))⟩,
  ⟨(some 131), .pick (.tmp 117) (.tmp 130) (.const (.bool false)), none⟩]
def x18_46 : List XOper := [⟨(some 2), .op (.mv (.const (.int .u32 0))), none⟩,
  ⟨(some 3), .op (.mv (.const (.int .i64 1))), none⟩]
def x18_47 : XCode := .seq (.region x18_46) .ret
def x18_48 : XCode := .cnd (.tmp 131) x18_47 .skip
def x18_49 : XCode := .seq (.region x18_45) x18_48
def x18_50 : List XOper := [⟨(some 132), .op (.faddr 0 (.tmp 4)), none⟩,
  ⟨(some 133), .op (.load (.int .u8) 1 (.tmp 132)), none⟩,
  ⟨(some 134), .callF 46 [(.tmp 133)], none⟩,
  ⟨(some 135), .op (.lenS (.tmp 134)), none⟩,
  ⟨(some 136), .op (.mv (.const (.int .i64 0))), none⟩]
def x18_51 : List XOper := [⟨(some 137), .op (.bin .lss (.tmp 136) (.tmp 135)), none⟩]
def x18_52 : XCode := .cnd (.tmp 137) .skip (.exit 4)
def x18_53 : List XOper := [⟨(some 138), .op (.iaddrS 3 (.tmp 134) (.tmp 136)), none⟩,
  ⟨(some 139), .op (.load .agg 3 (.tmp 138)), none⟩,
  ⟨(some 16), .op (.new [(.int .u64 0), (.int .u64 0), (.int .u64 0)]), none⟩,
  ⟨none, .op (.store 3 (.tmp 16) (.tmp 139)), none⟩]
def x18_54 : List XOper := [⟨(some 140), .op (.mv (.tmp 11)), none⟩,
  ⟨(some 141), .op (.faddr 4 (.tmp 1)), none⟩,
  ⟨(some 142), .op (.load (.int .i64) 1 (.tmp 141)), none⟩,
  ⟨(some 143), .op (.conv .u32 (.tmp 142)), none⟩,
  ⟨(some 144), .op (.faddr 0 (.tmp 16)), none⟩,
  ⟨(some 145), .op (.load (.int .u64) 1 (.tmp 144)), none⟩,
  ⟨(some 146), .op (.bin .shr (.tmp 143) (.tmp 145)), none⟩,
  ⟨(some 147), .op (.faddr 1 (.tmp 16)), none⟩,
  ⟨(some 148), .op (.load (.int .u64) 1 (.tmp 147)), none⟩,
  ⟨(some 149), .op (.bin .shl (.const (.int .u32 1)) (.tmp 148)), none⟩,
  ⟨(some 150), .op (.bin .sub (.tmp 149) (.const (.int .u32 1))), none⟩,
  ⟨(some 151), .op (.bin .and (.tmp 146) (.tmp 150)), none⟩,
  ⟨(some 152), .op (.faddr 2 (.tmp 16)), none⟩,
  ⟨(some 153), .op (.load (.int .u64) 1 (.tmp 152)), none⟩,
  ⟨(some 154), .op (.bin .shl (.tmp 151) (.tmp 153)), none⟩,
  ⟨(some 155), .op (.bin .or (.tmp 140) (.tmp 154)), none⟩,
  ⟨(some 11), .op (.mv (.tmp 155)), none⟩]
def x18_55 : XCode := .seq (.region x18_53) (.region x18_54)
def x18_56 : XCode := .block 5 x18_55
def x18_57 : List XOper := [⟨(some 156), .op (.bin .add (.tmp 136) (.const (.int .i64 1))), none⟩,
  ⟨(some 136), .op (.mv (.tmp 156)), none⟩]
def x18_58 : XCode := .seq x18_56 (.region x18_57)
def x18_59 : XCode := .seq x18_52 x18_58
def x18_60 : XCode := .seq (.region x18_51) x18_59
def x18_61 : XCode := .loop x18_60
def x18_62 : XCode := .block 4 x18_61
def x18_63 : XCode := .seq (.region x18_50) x18_62
def x18_64 : List XOper := [⟨(some 157), .op (.mv (.tmp 11)), none⟩,
  ⟨(some 2), .op (.mv (.tmp 157)), none⟩,
  ⟨(some 3), .op (.mv (.const (.int .i64 0))), none⟩]
def x18_65 : XCode := .seq (.region x18_64) .ret
def x18_66 : XCode := .seq x18_63 x18_65
def x18_67 : XCode := .seq x18_49 x18_66
def x18_68 : XCode := .seq (.region x18_44) x18_67
def x18_69 : XCode := .seq x18_43 x18_68
def x18_70 : XCode := .seq (.region x18_23) x18_69
def x18_71 : XCode := .seq x18_22 x18_70
def x18_72 : XCode := .seq x18_17 x18_71
def x18_73 : XCode := .seq (.region x18_3) x18_72
def x18_74 : XCode := .seq (.region x18_2) x18_73
def x18_75 : XCode := .seq (.draw x18_1 [[], [], [1], [0, 1, 2], [0, 1, 2, 3], [0, 1, 2, 3, 4], [0, 1, 2, 3, 4], [], [0, 1, 2, 3, 4, 5, 7], [0, 1, 2, 3, 4, 5, 6, 7, 8]]) x18_74
def x18_76 : XCode := .seq (.region x18_0) x18_75
def x18 : XCode := x18_76
theorem fx18 : fnx Try.prog 18 = some (158, [(2, none), (3, none)], x18) := by kernel_rfl
def x19_0 : List XOper := [⟨(some 2), .op (.mv (.const (.string ⟨#[]⟩))), none⟩]
def x19_1 : List XOper := [⟨(some 3), .op (.mv (.tmp 0)), none⟩,
  ⟨(some 4), .op (.conv .u8 (.tmp 3)), none⟩,
  ⟨(some 5), .op (.bin .add (.const (.int .u8 97)) (.tmp 4)), none⟩,
  ⟨(some 6), .op (.mkslice [(.int .u8 0)] 1 [(0, (.tmp 5))]), none⟩,
  ⟨(some 7), .op (.b2s (.tmp 6)), none⟩,
  ⟨(some 8), .op (.bin .add (.const (.string ⟨#[108]⟩)) (.tmp 7)), none⟩,
  ⟨(some 2), .op (.mv (.tmp 8)), none⟩]
def x19_2 : XCode := .seq (.region x19_1) .ret
def x19_3 : XCode := .seq (.region x19_0) x19_2
def x19 : XCode := x19_3
theorem fx19 : fnx Try.prog 19 = some (9, [(2, none)], x19) := by kernel_rfl
def x39_0 : List XOper := [⟨(some 2), .op (.mv (.const (.int .i64 0))), none⟩]
def x39_1 : List XOper := [⟨(some 13), .op (.mv (.tmp 0)), none⟩,
  ⟨(some 14), .op (.nilck (.tmp 13)), none⟩,
  ⟨(some 15), .op (.faddr 2 (.tmp 14)), none⟩,
  ⟨(some 16), .op (.load (.int .i64) 1 (.tmp 15)), none⟩,
  ⟨(some 17), .op (.bin .rem (.tmp 16) (.const (.int .i64 4))), none⟩,
  ⟨(some 18), .op (.bin .neq (.tmp 17) (.const (.int .i64 0))), none⟩,
  ⟨(some 19), .op (.mv (.tmp 18)), none⟩,
  ⟨(some 20), .op (.mv (.tmp 0)), (some (19, false))⟩,
  ⟨(some 21), .op (.nilck (.tmp 20)), (some (19, false))⟩,
  ⟨(some 22), .op (.faddr 2 (.tmp 21)), (some (19, false))⟩,
  ⟨(some 23), .op (.load (.int .i64) 1 (.tmp 22)), (some (19, false))⟩,
  ⟨(some 24), .op (.bin .lss (.tmp 23) (.const (.int .i64 0))), (some (19, false))⟩,
  ⟨(some 25), .pick (.tmp 19) (.const (.bool true)) (.tmp 24), none⟩,
  ⟨(some 26), .op (.mv (.tmp 25)), none⟩,
  ⟨(some 27), .op (.mv (.tmp 0)), (some (26, false))⟩,
  ⟨(some 28), .op (.nilck (.tmp 27)), (some (26, false))⟩,
  ⟨(some 29), .op (.faddr 2 (.tmp 28)), (some (26, false))⟩,
  ⟨(some 30), .op (.load (.int .i64) 1 (.tmp 29)), (some (26, false))⟩,
  ⟨(some 31), .op (.bin .gtr (.tmp 30) (.const (.int .i64 4194304))), (some (26, false))⟩,
  ⟨(some 32), .pick (.tmp 26) (.const (.bool true)) (.tmp 31), none⟩]
def x39_2 : List XOper := [⟨(some 2), .op (.mv (.const (.int .i64 1))), none⟩]
def x39_3 : XCode := .seq (.region x39_2) .ret
def x39_4 : XCode := .cnd (.tmp 32) x39_3 .skip
def x39_5 : XCode := .seq (.region x39_1) x39_4
def x39_6 : List XOper := [⟨(some 33), .op (.mv (.tmp 0)), none⟩,
  ⟨(some 34), .op (.nilck (.tmp 33)), none⟩,
  ⟨(some 35), .op (.faddr 0 (.tmp 34)), none⟩,
  ⟨(some 36), .op (.load .one 1 (.tmp 35)), none⟩,
  ⟨(some 37), .op (.lenS (.tmp 36)), none⟩,
  ⟨(some 38), .op (.bin .gtr (.tmp 37) (.const (.int .i64 65536))), none⟩]
def x39_7 : List XOper := [⟨(some 2), .op (.mv (.const (.int .i64 3))), none⟩]
def x39_8 : XCode := .seq (.region x39_7) .ret
def x39_9 : XCode := .cnd (.tmp 38) x39_8 .skip
def x39_10 : XCode := .seq (.region x39_6) x39_9
def x39_11 : List XOper := [⟨(some 39), .op (.mv (.tmp 0)), none⟩,
  ⟨(some 40), .op (.nilck (.tmp 39)), none⟩,
  ⟨(some 41), .op (.faddr 0 (.tmp 40)), none⟩,
  ⟨(some 42), .op (.load .one 1 (.tmp 41)), none⟩,
  ⟨(some 43), .op (.lenS (.tmp 42)), none⟩,
  ⟨(some 44), .op (.mv (.const (.int .i64 0))), none⟩]
def x39_12 : List XOper := [⟨(some 45), .op (.bin .lss (.tmp 44) (.tmp 43)), none⟩]
def x39_13 : XCode := .cnd (.tmp 45) .skip (.exit 0)
def x39_14 : List XOper := [⟨(some 46), .op (.iaddrS 8 (.tmp 42) (.tmp 44)), none⟩,
  ⟨(some 47), .op (.load .agg 8 (.tmp 46)), none⟩,
  ⟨(some 4), .op (.new [(.string ⟨#[]⟩), (.int .i64 0), (.int .i64 0), (.int .i64 0), (.int .i64 0), (.int .i64 0), (.string ⟨#[]⟩), (.int .i64 0)]), none⟩,
  ⟨none, .op (.store 8 (.tmp 4) (.tmp 47)), none⟩]
def x39_15 : List XOper := [⟨(some 48), .op (.load .agg 8 (.tmp 4)), none⟩,
  ⟨(some 49), .callF 51 [(.tmp 48)], none⟩,
  ⟨(some 50), .op (.un .not (.tmp 49)), none⟩]
def x39_16 : List XOper := [⟨(some 2), .op (.mv (.const (.int .i64 2))), none⟩]
def x39_17 : XCode := .seq (.region x39_16) .ret
def x39_18 : XCode := .cnd (.tmp 50) x39_17 .skip
def x39_19 : XCode := .seq (.region x39_15) x39_18
def x39_20 : XCode := .seq (.region x39_14) x39_19
def x39_21 : XCode := .block 1 x39_20
def x39_22 : List XOper := [⟨(some 51), .op (.bin .add (.tmp 44) (.const (.int .i64 1))), none⟩,
  ⟨(some 44), .op (.mv (.tmp 51)), none⟩]
def x39_23 : XCode := .seq x39_21 (.region x39_22)
def x39_24 : XCode := .seq x39_13 x39_23
def x39_25 : XCode := .seq (.region x39_12) x39_24
def x39_26 : XCode := .loop x39_25
def x39_27 : XCode := .block 0 x39_26
def x39_28 : XCode := .seq (.region x39_11) x39_27
def x39_29 : List XOper := [⟨(some 52), .op (.mv (.tmp 0)), none⟩,
  ⟨(some 53), .op (.nilck (.tmp 52)), none⟩,
  ⟨(some 54), .op (.faddr 0 (.tmp 53)), none⟩,
  ⟨(some 55), .op (.load .one 1 (.tmp 54)), none⟩,
  ⟨(some 56), .op (.lenS (.tmp 55)), none⟩,
  ⟨(some 57), .op (.mv (.const (.int .i64 0))), none⟩]
def x39_30 : List XOper := [⟨(some 58), .op (.bin .lss (.tmp 57) (.tmp 56)), none⟩]
def x39_31 : XCode := .cnd (.tmp 58) .skip (.exit 2)
def x39_32 : List XOper := [⟨(some 59), .op (.iaddrS 8 (.tmp 55) (.tmp 57)), none⟩,
  ⟨(some 60), .op (.load .agg 8 (.tmp 59)), none⟩,
  ⟨(some 6), .op (.new [(.string ⟨#[]⟩), (.int .i64 0), (.int .i64 0), (.int .i64 0), (.int .i64 0), (.int .i64 0), (.string ⟨#[]⟩), (.int .i64 0)]), none⟩,
  ⟨none, .op (.store 8 (.tmp 6) (.tmp 60)), none⟩]
def x39_33 : List XOper := [⟨(some 62), .op (.mv (.tmp 0)), none⟩,
  ⟨(some 63), .op (.nilck (.tmp 62)), none⟩,
  ⟨(some 64), .op (.faddr 3 (.tmp 63)), none⟩,
  ⟨(some 65), .op (.load .one 1 (.tmp 64)), none⟩,
  ⟨(some 66), .op (.faddr 0 (.tmp 6)), none⟩,
  ⟨(some 67), .op (.load .str 1 (.tmp 66)), none⟩,
  ⟨(some 68), .op (.lookup 9 3 .string (.int .i64 0) true (.tmp 65) (.tmp 67)), none⟩,
  ⟨(some 61), .op (.mv (.tmp 68)), none⟩,
  ⟨(some 69), .op (.ext (.tmp 61) 0), none⟩,
  ⟨(some 70), .op (.ext (.tmp 61) 1), none⟩,
  ⟨(some 7), .op (.mv (.tmp 69)), none⟩,
  ⟨(some 8), .op (.mv (.tmp 70)), none⟩]
def x39_34 : List XOper := [⟨(some 71), .op (.mv (.tmp 8)), none⟩]
def x39_35 : List XOper := [⟨(some 2), .op (.mv (.const (.int .i64 18))), none⟩]
def x39_36 : XCode := .seq (.region x39_35) .ret
def x39_37 : XCode := .cnd (.tmp 71) x39_36 .skip
def x39_38 : XCode := .seq (.region x39_34) x39_37
def x39_39 : XCode := .seq (.draw x39_33 [[], [0], [0, 1], [0, 1, 2], [], [4], [0, 1, 2, 3, 4, 5], [0, 1, 2, 3, 4, 5, 6], [0, 1, 2, 3, 4, 5, 6, 7], [0, 1, 2, 3, 4, 5, 6, 7], [0, 1, 2, 3, 4, 5, 6, 7, 8], [0, 1, 2, 3, 4, 5, 6, 7, 8, 9, 10]]) x39_38
def x39_40 : List XOper := [⟨(some 72), .op (.faddr 0 (.tmp 6)), none⟩,
  ⟨(some 73), .op (.load .str 1 (.tmp 72)), none⟩,
  ⟨(some 74), .op (.bin .neq (.tmp 73) (.const (.string ⟨#[]⟩))), none⟩]
def x39_41 : List XOper := [⟨(some 75), .op (.mv (.tmp 0)), none⟩,
  ⟨(some 76), .op (.nilck (.tmp 75)), none⟩,
  ⟨(some 77), .op (.faddr 3 (.tmp 76)), none⟩,
  ⟨(some 78), .op (.load .one 1 (.tmp 77)), none⟩,
  ⟨(some 79), .op (.faddr 0 (.tmp 6)), none⟩,
  ⟨(some 80), .op (.load .str 1 (.tmp 79)), none⟩,
  ⟨none, .op (.mapupd 9 3 .string (.tmp 78) (.tmp 80) (.const (.int .i64 0))), none⟩]
def x39_42 : XCode := .cnd (.tmp 74) (.draw x39_41 [[], [0], [0, 1], [0, 1, 2], [], [4], [0, 1, 2, 3, 4, 5]]) .skip
def x39_43 : XCode := .seq (.region x39_40) x39_42
def x39_44 : XCode := .seq x39_39 x39_43
def x39_45 : XCode := .seq (.region x39_32) x39_44
def x39_46 : XCode := .block 3 x39_45
def x39_47 : List XOper := [⟨(some 81), .op (.bin .add (.tmp 57) (.const (.int .i64 1))), none⟩,
  ⟨(some 57), .op (.mv (.tmp 81)), none⟩]
def x39_48 : XCode := .seq x39_46 (.region x39_47)
def x39_49 : XCode := .seq x39_31 x39_48
def x39_50 : XCode := .seq (.region x39_30) x39_49
def x39_51 : XCode := .loop x39_50
def x39_52 : XCode := .block 2 x39_51
def x39_53 : XCode := .seq (.region x39_29) x39_52
def x39_54 : List XOper := [⟨(some 82), .op (.mv (.tmp 0)), none⟩,
  ⟨(some 83), .op (.nilck (.tmp 82)), none⟩,
  ⟨(some 84), .op (.faddr 0 (.tmp 83)), none⟩,
  ⟨(some 85), .op (.load .one 1 (.tmp 84)), none⟩,
  ⟨(some 86), .op (.lenS (.tmp 85)), none⟩,
  ⟨(some 87), .op (.mv (.const (.int .i64 0))), none⟩]
def x39_55 : List XOper := [⟨(some 88), .op (.bin .lss (.tmp 87) (.tmp 86)), none⟩]
def x39_56 : XCode := .cnd (.tmp 88) .skip (.exit 4)
def x39_57 : List XOper := [⟨(some 89), .op (.iaddrS 8 (.tmp 85) (.tmp 87)), none⟩,
  ⟨(some 90), .op (.load .agg 8 (.tmp 89)), none⟩,
  ⟨(some 10), .op (.new [(.string ⟨#[]⟩), (.int .i64 0), (.int .i64 0), (.int .i64 0), (.int .i64 0), (.int .i64 0), (.string ⟨#[]⟩), (.int .i64 0)]), none⟩,
  ⟨none, .op (.store 8 (.tmp 10) (.tmp 90)), none⟩]
def x39_58 : List XOper := [⟨(some 92), .op (.mv (.tmp 0)), none⟩,
  ⟨(some 93), .op (.nilck (.tmp 92)), none⟩,
  ⟨(some 94), .op (.faddr 3 (.tmp 93)), none⟩,
  ⟨(some 95), .op (.load .one 1 (.tmp 94)), none⟩,
  ⟨(some 96), .op (.faddr 6 (.tmp 10)), none⟩,
  ⟨(some 97), .op (.load .str 1 (.tmp 96)), none⟩,
  ⟨(some 98), .op (.lookup 9 3 .string (.int .i64 0) true (.tmp 95) (.tmp 97)), none⟩,
  ⟨(some 91), .op (.mv (.tmp 98)), none⟩,
  ⟨(some 99), .op (.ext (.tmp 91) 0), none⟩,
  ⟨(some 100), .op (.ext (.tmp 91) 1), none⟩,
  ⟨(some 11), .op (.mv (.tmp 99)), none⟩,
  ⟨(some 12), .op (.mv (.tmp 100)), none⟩]
def x39_59 : List XOper := [⟨(some 101), .op (.faddr 6 (.tmp 10)), none⟩,
  ⟨(some 102), .op (.load .str 1 (.tmp 101)), none⟩,
  ⟨(some 103), .op (.bin .neq (.tmp 102) (.const (.string ⟨#[]⟩))), none⟩,
  ⟨(some 104), .op (.mv (.tmp 103)), none⟩,
  ⟨(some 105), .op (.mv (.tmp 12)), (some (104, true))⟩,
  ⟨(some 106), .op (.un .not (.tmp 105)), (some (104, true))⟩,
  ⟨(some 107), .pick (.tmp 104) (.tmp 106) (.const (.bool false)), none⟩]
def x39_60 : List XOper := [⟨(some 2), .op (.mv (.const (.int .i64 17))), none⟩]
def x39_61 : XCode := .seq (.region x39_60) .ret
def x39_62 : XCode := .cnd (.tmp 107) x39_61 .skip
def x39_63 : XCode := .seq (.region x39_59) x39_62
def x39_64 : XCode := .seq (.draw x39_58 [[], [0], [0, 1], [0, 1, 2], [], [4], [0, 1, 2, 3, 4, 5], [0, 1, 2, 3, 4, 5, 6], [0, 1, 2, 3, 4, 5, 6, 7], [0, 1, 2, 3, 4, 5, 6, 7], [0, 1, 2, 3, 4, 5, 6, 7, 8], [0, 1, 2, 3, 4, 5, 6, 7, 8, 9, 10]]) x39_63
def x39_65 : XCode := .seq (.region x39_57) x39_64
def x39_66 : XCode := .block 5 x39_65
def x39_67 : List XOper := [⟨(some 108), .op (.bin .add (.tmp 87) (.const (.int .i64 1))), none⟩,
  ⟨(some 87), .op (.mv (.tmp 108)), none⟩]
def x39_68 : XCode := .seq x39_66 (.region x39_67)
def x39_69 : XCode := .seq x39_56 x39_68
def x39_70 : XCode := .seq (.region x39_55) x39_69
def x39_71 : XCode := .loop x39_70
def x39_72 : XCode := .block 4 x39_71
def x39_73 : XCode := .seq (.region x39_54) x39_72
def x39_74 : List XOper := [⟨(some 2), .op (.mv (.const (.int .i64 0))), none⟩]
def x39_75 : XCode := .seq (.region x39_74) .ret
def x39_76 : XCode := .seq x39_73 x39_75
def x39_77 : XCode := .seq x39_53 x39_76
def x39_78 : XCode := .seq x39_28 x39_77
def x39_79 : XCode := .seq x39_10 x39_78
def x39_80 : XCode := .seq x39_5 x39_79
def x39_81 : XCode := .seq (.region x39_0) x39_80
def x39 : XCode := x39_81
theorem fx39 : fnx Try.prog 39 = some (109, [(2, none)], x39) := by kernel_rfl
def x40_0 : List XOper := [⟨(some 5), .op (.mv (.tmp 0)), none⟩,
  ⟨(some 6), .op (.nilck (.tmp 5)), none⟩,
  ⟨(some 7), .op (.faddr 2 (.tmp 6)), none⟩,
  ⟨(some 8), .op (.load (.int .i64) 1 (.tmp 7)), none⟩,
  ⟨(some 2), .op (.mv (.tmp 8)), none⟩]
def x40_1 : List XOper := [⟨(some 9), .op (.mv (.tmp 0)), none⟩,
  ⟨(some 10), .op (.nilck (.tmp 9)), none⟩,
  ⟨(some 11), .op (.faddr 0 (.tmp 10)), none⟩,
  ⟨(some 12), .op (.load .one 1 (.tmp 11)), none⟩,
  ⟨(some 13), .op (.lenS (.tmp 12)), none⟩,
  ⟨(some 14), .op (.mv (.const (.int .i64 0))), none⟩]
def x40_2 : List XOper := [⟨(some 15), .op (.bin .lss (.tmp 14) (.tmp 13)), none⟩]
def x40_3 : XCode := .cnd (.tmp 15) .skip (.exit 0)
def x40_4 : List XOper := [⟨(some 16), .op (.mv (.tmp 14)), none⟩,
  ⟨(some 17), .op (.iaddrS 8 (.tmp 12) (.tmp 14)), none⟩,
  ⟨(some 18), .op (.load .agg 8 (.tmp 17)), none⟩,
  ⟨(some 4), .op (.new [(.string ⟨#[]⟩), (.int .i64 0), (.int .i64 0), (.int .i64 0), (.int .i64 0), (.int .i64 0), (.string ⟨#[]⟩), (.int .i64 0)]), none⟩,
  ⟨(some 3), .op (.mv (.tmp 16)), none⟩,
  ⟨none, .op (.store 8 (.tmp 4) (.tmp 18)), none⟩]
def x40_5 : List XOper := [⟨(some 19), .op (.mv (.tmp 0)), none⟩,
  ⟨(some 20), .op (.nilck (.tmp 19)), none⟩,
  ⟨(some 21), .op (.faddr 4 (.tmp 20)), none⟩,
  ⟨(some 22), .op (.load .one 1 (.tmp 21)), none⟩,
  ⟨(some 23), .op (.mv (.tmp 3)), none⟩,
  ⟨(some 24), .op (.mv (.tmp 2)), none⟩,
  ⟨(some 25), .op (.iaddrS 1 (.tmp 22) (.tmp 23)), none⟩,
  ⟨none, .op (.store 1 (.tmp 25) (.tmp 24)), none⟩]
def x40_6 : List XOper := [⟨(some 29), .op (.faddr 0 (.tmp 4)), none⟩,
  ⟨(some 30), .op (.load .str 1 (.tmp 29)), none⟩,
  ⟨(some 31), .op (.bin .neq (.tmp 30) (.const (.string ⟨#[]⟩))), none⟩,
  ⟨(some 28), .op (.mv (.tmp 31)), none⟩]
def x40_7 : List XOper := [⟨(some 32), .op (.mv (.tmp 0)), none⟩,
  ⟨(some 33), .op (.nilck (.tmp 32)), none⟩,
  ⟨(some 34), .op (.faddr 3 (.tmp 33)), none⟩,
  ⟨(some 35), .op (.load .one 1 (.tmp 34)), none⟩,
  ⟨(some 36), .op (.faddr 0 (.tmp 4)), none⟩,
  ⟨(some 37), .op (.load .str 1 (.tmp 36)), none⟩,
  ⟨(some 38), .op (.mv (.tmp 2)), none⟩,
  ⟨none, .op (.mapupd 9 3 .string (.tmp 35) (.tmp 37) (.tmp 38)), none⟩]
def x40_8 : List XOper := [⟨(some 40), .op (.mv (.tmp 0)), none⟩,
  ⟨(some 41), .op (.nilck (.tmp 40)), none⟩,
  ⟨(some 42), .op (.faddr 1 (.tmp 41)), none⟩,
  ⟨(some 43), .op (.load .one 1 (.tmp 42)), none⟩,
  ⟨(some 44), .op (.mv (.tmp 3)), none⟩,
  ⟨(some 45), .op (.iaddrS 1 (.tmp 43) (.tmp 44)), none⟩,
  ⟨(some 46), .op (.load .bool 1 (.tmp 45)), none⟩,
  ⟨(some 39), .op (.mv (.tmp 46)), none⟩]
def x40_9 : List XOper := [⟨(some 47), .op (.mv (.tmp 2)), none⟩,
  ⟨(some 48), .op (.bin .add (.tmp 47) (.const (.int .i64 8))), none⟩,
  ⟨(some 2), .op (.mv (.tmp 48)), none⟩]
def x40_10 : List XOper := [⟨(some 26), .op (.mv (.tmp 2)), none⟩,
  ⟨(some 27), .op (.bin .add (.tmp 26) (.const (.int .i64 4))), none⟩,
  ⟨(some 2), .op (.mv (.tmp 27)), none⟩]
def x40_11 : XCode := .cnd (.tmp 39) (.region x40_9) (.region x40_10)
def x40_12 : XCode := .seq (.region x40_8) x40_11
def x40_13 : XCode := .cnd (.tmp 28) (.draw x40_7 [[], [0], [0, 1], [0, 1, 2], [], [4], [], [0, 1, 2, 3, 4, 5, 6]]) x40_12
def x40_14 : XCode := .seq (.region x40_6) x40_13
def x40_15 : XCode := .block 2 x40_14
def x40_16 : XCode := .seq (.region x40_5) x40_15
def x40_17 : XCode := .seq (.region x40_4) x40_16
def x40_18 : XCode := .block 1 x40_17
def x40_19 : List XOper := [⟨(some 49), .op (.bin .add (.tmp 14) (.const (.int .i64 1))), none⟩,
  ⟨(some 14), .op (.mv (.tmp 49)), none⟩]
def x40_20 : XCode := .seq x40_18 (.region x40_19)
def x40_21 : XCode := .seq x40_3 x40_20
def x40_22 : XCode := .seq (.region x40_2) x40_21
def x40_23 : XCode := .loop x40_22
def x40_24 : XCode := .block 0 x40_23
def x40_25 : XCode := .seq (.region x40_1) x40_24
def x40_26 : XCode := .seq (.region x40_0) x40_25
def x40 : XCode := x40_26
theorem fx40 : fnx Try.prog 40 = some (50, [], x40) := by kernel_rfl
def x41_0 : List XOper := [⟨(some 2), .op (.mv (.const (.bool false))), none⟩]
def x41_1 : List XOper := [⟨(some 3), .op (.mv (.const (.bool false))), none⟩]
def x41_2 : List XOper := [⟨(some 6), .op (.mv (.tmp 0)), none⟩,
  ⟨(some 7), .op (.nilck (.tmp 6)), none⟩,
  ⟨(some 8), .op (.faddr 0 (.tmp 7)), none⟩,
  ⟨(some 9), .op (.load .one 1 (.tmp 8)), none⟩,
  ⟨(some 10), .op (.lenS (.tmp 9)), none⟩,
  ⟨(some 11), .op (.mv (.const (.int .i64 0))), none⟩]
def x41_3 : List XOper := [⟨(some 12), .op (.bin .lss (.tmp 11) (.tmp 10)), none⟩]
def x41_4 : XCode := .cnd (.tmp 12) .skip (.exit 0)
def x41_5 : List XOper := [⟨(some 13), .op (.mv (.tmp 11)), none⟩,
  ⟨(some 14), .op (.iaddrS 8 (.tmp 9) (.tmp 11)), none⟩,
  ⟨(some 15), .op (.load .agg 8 (.tmp 14)), none⟩,
  ⟨(some 5), .op (.new [(.string ⟨#[]⟩), (.int .i64 0), (.int .i64 0), (.int .i64 0), (.int .i64 0), (.int .i64 0), (.string ⟨#[]⟩), (.int .i64 0)]), none⟩,
  ⟨(some 4), .op (.mv (.tmp 13)), none⟩,
  ⟨none, .op (.store 8 (.tmp 5) (.tmp 15)), none⟩]
def x41_6 : List XOper := [⟨(some 16), .op (.faddr 0 (.tmp 5)), none⟩,
  ⟨(some 17), .op (.load .str 1 (.tmp 16)), none⟩,
  ⟨(some 18), .op (.bin .eql (.tmp 17) (.const (.string ⟨#[]⟩))), none⟩,
  ⟨(some 19), .op (.mv (.tmp 18)), none⟩,
  ⟨(some 20), .op (.faddr 1 (.tmp 5)), (some (19, true))⟩,
  ⟨(some 21), .op (.faddr 0 (.tmp 20)), (some (19, true))⟩,
  ⟨(some 22), .op (.load (.int .i64) 1 (.tmp 21)), (some (19, true))⟩,
  ⟨(some 23), .callF 52 [(.tmp 22)], (some (19, true))⟩,
  ⟨(some 24), .pick (.tmp 19) (.tmp 23) (.const (.bool false)), none⟩,
  ⟨(some 25), .op (.mv (.tmp 24)), none⟩,
  ⟨(some 26), .op (.faddr 6 (.tmp 5)), (some (25, true))⟩,
  ⟨(some 27), .op (.load .str 1 (.tmp 26)), (some (25, true))⟩,
  ⟨(some 28), .op (.bin .neq (.tmp 27) (.const (.string ⟨#[]⟩))), (some (25, true))⟩,
  ⟨(some 29), .pick (.tmp 25) (.tmp 28) (.const (.bool false)), none⟩,
  ⟨(some 30), .op (.mv (.tmp 29)), none⟩,
  ⟨(some 31), .op (.mv (.tmp 0)), (some (30, true))⟩,
  ⟨(some 32), .op (.nilck (.tmp 31)), (some (30, true))⟩,
  ⟨(some 33), .op (.faddr 1 (.tmp 32)), (some (30, true))⟩,
  ⟨(some 34), .op (.load .one 1 (.tmp 33)), (some (30, true))⟩,
  ⟨(some 35), .op (.mv (.tmp 4)), (some (30, true))⟩,
  ⟨(some 36), .op (.iaddrS 1 (.tmp 34) (.tmp 35)), (some (30, true))⟩,
  ⟨(some 37), .op (.load .bool 1 (.tmp 36)), (some (30, true))⟩,
  ⟨(some 38), .op (.un .not (.tmp 37)), (some (30, true))⟩,
  ⟨(some 39), .pick (.tmp 30) (.tmp 38) (.const (.bool false)), none⟩,
  ⟨(some 40), .op (.mv (.tmp 39)), none⟩,
  ⟨(some 41), .op (.faddr 1 (.tmp 5)), (some (40, true))⟩,
  ⟨(some 42), .op (.faddr 0 (.tmp 41)), (some (40, true))⟩,
  ⟨(some 43), .op (.load (.int .i64) 1 (.tmp 42)), (some (40, true))⟩,
  ⟨(some 44), .op (.mv (.tmp 0)), (some (40, true))⟩,
  ⟨(some 45), .op (.nilck (.tmp 44)), (some (40, true))⟩,
  ⟨(some 46), .op (.faddr 3 (.tmp 45)), (some (40, true))⟩,
  ⟨(some 47), .op (.load .one 1 (.tmp 46)), (some (40, true))⟩,
  ⟨(some 48), .op (.faddr 6 (.tmp 5)), (some (40, true))⟩,
  ⟨(some 49), .op (.load .str 1 (.tmp 48)), (some (40, true))⟩,
  ⟨(some 50), .op (.lookup 9 3 .string (.int .i64 0) false (.tmp 47) (.tmp 49)), (some (40, true))⟩,
  ⟨(some 51), .op (.mv (.tmp 0)), (some (40, true))⟩,
  ⟨(some 52), .op (.nilck (.tmp 51)), (some (40, true))⟩,
  ⟨(some 53), .op (.faddr 4 (.tmp 52)), (some (40, true))⟩,
  ⟨(some 54), .op (.load .one 1 (.tmp 53)), (some (40, true))⟩,
  ⟨(some 55), .op (.mv (.tmp 4)), (some (40, true))⟩,
  ⟨(some 56), .op (.iaddrS 1 (.tmp 54) (.tmp 55)), (some (40, true))⟩,
  ⟨(some 57), .op (.load (.int .i64) 1 (.tmp 56)), (some (40, true))⟩,
  ⟨(some 58), .op (.bin .sub (.tmp 50) (.tmp 57)), (some (40, true))⟩,
  ⟨(some 59), .callF 53 [(.tmp 43), (.tmp 58)], (some (40, true))⟩,
  ⟨(some 60), .op (.un .not (.tmp 59)), (some (40, true))⟩,
  ⟨(some 61), .pick (.tmp 40) (.tmp 60) (.const (.bool false)), none⟩]
def x41_7 : List XOper := [⟨(some 62), .op (.mv (.tmp 0)), none⟩,
  ⟨(some 63), .op (.nilck (.tmp 62)), none⟩,
  ⟨(some 64), .op (.faddr 1 (.tmp 63)), none⟩,
  ⟨(some 65), .op (.load .one 1 (.tmp 64)), none⟩,
  ⟨(some 66), .op (.mv (.tmp 4)), none⟩,
  ⟨(some 67), .op (.iaddrS 1 (.tmp 65) (.tmp 66)), none⟩,
  ⟨none, .op (.store 1 (.tmp 67) (.const (.bool true))), none⟩,
  ⟨(some 3), .op (.mv (.const (.bool true))), none⟩]
def x41_8 : XCode := .cnd (.tmp 61) (.region x41_7) .skip
def x41_9 : XCode := .seq (.draw x41_6 [[], [0], [0, 1], [0, 1, 2], [0, 1, 2, 3], [0, 1, 2, 3, 4], [0, 1, 2, 3, 4, 5], [0, 1, 2, 3, 4, 5, 6], [0, 1, 2, 3, 4, 5, 6, 7], [0, 1, 2, 3, 4, 5, 6, 7, 8], [0, 1, 2, 3, 4, 5, 6, 7, 8, 9], [0, 1, 2, 3, 4, 5, 6, 7, 8, 9, 10], [0, 1, 2, 3, 4, 5, 6, 7, 8, 9, 10, 11], [0, 1, 2, 3, 4, 5, 6, 7, 8, 9, 10, 11, 12], [0, 1, 2, 3, 4, 5, 6, 7, 8, 9, 10, 11, 12, 13], [0, 1, 2, 3, 4, 5, 6, 7, 8, 9, 10, 11, 12, 13, 14], [0, 1, 2, 3, 4, 5, 6, 7, 8, 9, 10, 11, 12, 13, 14, 15], [0, 1, 2, 3, 4, 5, 6, 7, 8, 9, 10, 11, 12, 13, 14, 15, 16], [0, 1, 2, 3, 4, 5, 6, 7, 8, 9, 10, 11, 12, 13, 14, 15, 16, 17], [0, 1, 2, 3, 4, 5, 6, 7, 8, 9, 10, 11, 12, 13, 14], [0, 1, 2, 3, 4, 5, 6, 7, 8, 9, 10, 11, 12, 13, 14, 15, 16, 17, 18, 19], [0, 1, 2, 3, 4, 5, 6, 7, 8, 9, 10, 11, 12, 13, 14, 15, 16, 17, 18, 19, 20], [0, 1, 2, 3, 4, 5, 6, 7, 8, 9, 10, 11, 12, 13, 14, 15, 16, 17, 18, 19, 20, 21], [0, 1, 2, 3, 4, 5, 6, 7, 8, 9, 10, 11, 12, 13, 14, 15, 16, 17, 18, 19, 20, 21, 22], [0, 1, 2, 3, 4, 5, 6, 7, 8, 9, 10, 11, 12, 13, 14, 15, 16, 17, 18, 19, 20, 21, 22, 23], [0, 1, 2, 3, 4, 5, 6, 7, 8, 9, 10, 11, 12, 13, 14, 15, 16, 17, 18, 19, 20, 21, 22, 23, 24], [0, 1, 2, 3, 4, 5, 6, 7, 8, 9, 10, 11, 12, 13, 14, 15, 16, 17, 18, 19, 20, 21, 22, 23, 24, 25], [0, 1, 2, 3, 4, 5, 6, 7, 8, 9, 10, 11, 12, 13, 14, 15, 16, 17, 18, 19, 20, 21, 22, 23, 24, 25, 26], [0, 1, 2, 3, 4, 5, 6, 7, 8, 9, 10, 11, 12, 13, 14, 15, 16, 17, 18, 19, 20, 21, 22, 23, 24], [0, 1, 2, 3, 4, 5, 6, 7, 8, 9, 10, 11, 12, 13, 14, 15, 16, 17, 18, 19, 20, 21, 22, 23, 24, 28], [0, 1, 2, 3, 4, 5, 6, 7, 8, 9, 10, 11, 12, 13, 14, 15, 16, 17, 18, 19, 20, 21, 22, 23, 24, 28, 29], [0, 1, 2, 3, 4, 5, 6, 7, 8, 9, 10, 11, 12, 13, 14, 15, 16, 17, 18, 19, 20, 21, 22, 23, 24, 28, 29, 30], [0, 1, 2, 3, 4, 5, 6, 7, 8, 9, 10, 11, 12, 13, 14, 15, 16, 17, 18, 19, 20, 21, 22, 23, 24], [0, 1, 2, 3, 4, 5, 6, 7, 8, 9, 10, 11, 12, 13, 14, 15, 16, 17, 18, 19, 20, 21, 22, 23, 24, 32], [0, 1, 2, 3, 4, 5, 6, 7, 8, 9, 10, 11, 12, 13, 14, 15, 16, 17, 18, 19, 20, 21, 22, 23, 24, 28, 29, 30, 31, 32, 33], [0, 1, 2, 3, 4, 5, 6, 7, 8, 9, 10, 11, 12, 13, 14, 15, 16, 17, 18, 19, 20, 21, 22, 23, 24], [0, 1, 2, 3, 4, 5, 6, 7, 8, 9, 10, 11, 12, 13, 14, 15, 16, 17, 18, 19, 20, 21, 22, 23, 24, 35], [0, 1, 2, 3, 4, 5, 6, 7, 8, 9, 10, 11, 12, 13, 14, 15, 16, 17, 18, 19, 20, 21, 22, 23, 24, 35, 36], [0, 1, 2, 3, 4, 5, 6, 7, 8, 9, 10, 11, 12, 13, 14, 15, 16, 17, 18, 19, 20, 21, 22, 23, 24, 35, 36, 37], [0, 1, 2, 3, 4, 5, 6, 7, 8, 9, 10, 11, 12, 13, 14, 15, 16, 17, 18, 19, 20, 21, 22, 23, 24], [0, 1, 2, 3, 4, 5, 6, 7, 8, 9, 10, 11, 12, 13, 14, 15, 16, 17, 18, 19, 20, 21, 22, 23, 24, 35, 36, 37, 38, 39], [0, 1, 2, 3, 4, 5, 6, 7, 8, 9, 10, 11, 12, 13, 14, 15, 16, 17, 18, 19, 20, 21, 22, 23, 24, 35, 36, 37, 38, 39, 40], [0, 1, 2, 3, 4, 5, 6, 7, 8, 9, 10, 11, 12, 13, 14, 15, 16, 17, 18, 19, 20, 21, 22, 23, 24, 28, 29, 30, 31, 32, 33, 34, 35, 36, 37, 38, 39, 40, 41], [0, 1, 2, 3, 4, 5, 6, 7, 8, 9, 10, 11, 12, 13, 14, 15, 16, 17, 18, 19, 20, 21, 22, 23, 24, 25, 26, 27, 28, 29, 30, 31, 32, 33, 34, 35, 36, 37, 38, 39, 40, 41, 42], [0, 1, 2, 3, 4, 5, 6, 7, 8, 9, 10, 11, 12, 13, 14, 15, 16, 17, 18, 19, 20, 21, 22, 23, 24, 25, 26, 27, 28, 29, 30, 31, 32, 33, 34, 35, 36, 37, 38, 39, 40, 41, 42, 43], [0, 1, 2, 3, 4, 5, 6, 7, 8, 9, 10, 11, 12, 13, 14, 15, 16, 17, 18, 19, 20, 21, 22, 23, 24, 25, 26, 27, 28, 29, 30, 31, 32, 33, 34, 35, 36, 37, 38, 39, 40, 41, 42, 43, 44]]) x41_8
def x41_10 : XCode := .seq (.region x41_5) x41_9
def x41_11 : XCode := .block 1 x41_10
def x41_12 : List XOper := [⟨(some 68), .op (.bin .add (.tmp 11) (.const (.int .i64 1))), none⟩,
  ⟨(some 11), .op (.mv (.tmp 68)), none⟩]
def x41_13 : XCode := .seq x41_11 (.region x41_12)
def x41_14 : XCode := .seq x41_4 x41_13
def x41_15 : XCode := .seq (.region x41_3) x41_14
def x41_16 : XCode := .loop x41_15
def x41_17 : XCode := .block 0 x41_16
def x41_18 : XCode := .seq (.region x41_2) x41_17
def x41_19 : List XOper := [⟨(some 69), .op (.mv (.tmp 3)), none⟩,
  ⟨(some 2), .op (.mv (.tmp 69)), none⟩]
def x41_20 : XCode := .seq (.region x41_19) .ret
def x41_21 : XCode := .seq x41_18 x41_20
def x41_22 : XCode := .seq (.region x41_1) x41_21
def x41_23 : XCode := .seq (.region x41_0) x41_22
def x41 : XCode := x41_23
theorem fx41 : fnx Try.prog 41 = some (70, [(2, none)], x41) := by kernel_rfl
def x42_0 : List XOper := [⟨(some 4), .op (.mv (.const (.slice none 0 0))), none⟩]
def x42_1 : List XOper := [⟨(some 8), .op (.mv (.tmp 0)), none⟩,
  ⟨(some 9), .op (.nilck (.tmp 8)), none⟩,
  ⟨(some 10), .op (.faddr 0 (.tmp 9)), none⟩,
  ⟨(some 11), .op (.load .one 1 (.tmp 10)), none⟩,
  ⟨(some 12), .op (.mv (.tmp 1)), none⟩,
  ⟨(some 13), .op (.iaddrS 8 (.tmp 11) (.tmp 12)), none⟩,
  ⟨(some 14), .op (.faddr 1 (.tmp 13)), none⟩,
  ⟨(some 15), .op (.load .agg 5 (.tmp 14)), none⟩,
  ⟨(some 5), .op (.new [(.int .i64 0), (.int .i64 0), (.int .i64 0), (.int .i64 0), (.int .i64 0)]), none⟩,
  ⟨none, .op (.store 5 (.tmp 5) (.tmp 15)), none⟩]
def x42_2 : List XOper := [⟨(some 16), .op (.mv (.tmp 0)), none⟩,
  ⟨(some 17), .op (.nilck (.tmp 16)), none⟩,
  ⟨(some 18), .op (.faddr 0 (.tmp 17)), none⟩,
  ⟨(some 19), .op (.load .one 1 (.tmp 18)), none⟩,
  ⟨(some 20), .op (.mv (.tmp 1)), none⟩,
  ⟨(some 21), .op (.iaddrS 8 (.tmp 19) (.tmp 20)), none⟩,
  ⟨(some 22), .op (.faddr 6 (.tmp 21)), none⟩,
  ⟨(some 23), .op (.load .str 1 (.tmp 22)), none⟩,
  ⟨(some 6), .op (.mv (.tmp 23)), none⟩]
def x42_3 : List XOper := [⟨(some 24), .op (.mv (.tmp 0)), none⟩,
  ⟨(some 25), .op (.nilck (.tmp 24)), none⟩,
  ⟨(some 26), .op (.faddr 3 (.tmp 25)), none⟩,
  ⟨(some 27), .op (.load .one 1 (.tmp 26)), none⟩,
  ⟨(some 28), .op (.mv (.tmp 6)), none⟩,
  ⟨(some 29), .op (.lookup 9 3 .string (.int .i64 0) false (.tmp 27) (.tmp 28)), none⟩,
  ⟨(some 30), .op (.mv (.tmp 0)), none⟩,
  ⟨(some 31), .op (.nilck (.tmp 30)), none⟩,
  ⟨(some 32), .op (.faddr 4 (.tmp 31)), none⟩,
  ⟨(some 33), .op (.load .one 1 (.tmp 32)), none⟩,
  ⟨(some 34), .op (.mv (.tmp 1)), none⟩,
  ⟨(some 35), .op (.iaddrS 1 (.tmp 33) (.tmp 34)), none⟩,
  ⟨(some 36), .op (.load (.int .i64) 1 (.tmp 35)), none⟩,
  ⟨(some 37), .op (.bin .sub (.tmp 29) (.tmp 36)), none⟩,
  ⟨(some 7), .op (.mv (.tmp 37)), none⟩]
def x42_4 : List XOper := [⟨(some 41), .op (.mv (.tmp 6)), none⟩,
  ⟨(some 42), .op (.bin .eql (.tmp 41) (.const (.string ⟨#[]⟩))), none⟩,
  ⟨(some 40), .op (.mv (.tmp 42)), none⟩]
def x42_5 : List XOper := [⟨(some 44), .op (.mv (.tmp 0)), none⟩,
  ⟨(some 45), .op (.nilck (.tmp 44)), none⟩,
  ⟨(some 46), .op (.faddr 0 (.tmp 45)), none⟩,
  ⟨(some 47), .op (.load .one 1 (.tmp 46)), none⟩,
  ⟨(some 48), .op (.mv (.tmp 1)), none⟩,
  ⟨(some 49), .op (.iaddrS 8 (.tmp 47) (.tmp 48)), none⟩,
  ⟨(some 50), .op (.faddr 7 (.tmp 49)), none⟩,
  ⟨(some 51), .op (.load (.int .i64) 1 (.tmp 50)), none⟩,
  ⟨(some 52), .op (.bin .eql (.tmp 51) (.const (.int .i64 1))), none⟩,
  ⟨(some 43), .op (.mv (.tmp 52)), none⟩]
def x42_6 : List XOper := [⟨(some 53), .op (.mv (.tmp 0)), none⟩,
  ⟨(some 54), .op (.nilck (.tmp 53)), none⟩,
  ⟨(some 55), .op (.faddr 3 (.tmp 54)), none⟩,
  ⟨(some 56), .op (.load .one 1 (.tmp 55)), none⟩,
  ⟨(some 57), .op (.mv (.tmp 6)), none⟩,
  ⟨(some 58), .op (.lookup 9 3 .string (.int .i64 0) false (.tmp 56) (.tmp 57)), none⟩,
  ⟨(some 59), .callF 54 [(.tmp 58)], none⟩,
  ⟨(some 60), .op (.faddr 4 (.tmp 5)), none⟩,
  ⟨none, .op (.store 1 (.tmp 60) (.tmp 59)), none⟩]
def x42_7 : List XOper := [⟨(some 62), .op (.mv (.tmp 0)), none⟩,
  ⟨(some 63), .op (.nilck (.tmp 62)), none⟩,
  ⟨(some 64), .op (.faddr 0 (.tmp 63)), none⟩,
  ⟨(some 65), .op (.load .one 1 (.tmp 64)), none⟩,
  ⟨(some 66), .op (.mv (.tmp 1)), none⟩,
  ⟨(some 67), .op (.iaddrS 8 (.tmp 65) (.tmp 66)), none⟩,
  ⟨(some 68), .op (.faddr 7 (.tmp 67)), none⟩,
  ⟨(some 69), .op (.load (.int .i64) 1 (.tmp 68)), none⟩,
  ⟨(some 70), .op (.bin .eql (.tmp 69) (.const (.int .i64 2))), none⟩,
  ⟨(some 61), .op (.mv (.tmp 70)), none⟩]
def x42_8 : List XOper := [⟨(some 71), .op (.mv (.tmp 0)), none⟩,
  ⟨(some 72), .op (.nilck (.tmp 71)), none⟩,
  ⟨(some 73), .op (.faddr 3 (.tmp 72)), none⟩,
  ⟨(some 74), .op (.load .one 1 (.tmp 73)), none⟩,
  ⟨(some 75), .op (.mv (.tmp 6)), none⟩,
  ⟨(some 76), .op (.lookup 9 3 .string (.int .i64 0) false (.tmp 74) (.tmp 75)), none⟩,
  ⟨(some 77), .callF 55 [(.tmp 76)], none⟩,
  ⟨(some 78), .op (.faddr 4 (.tmp 5)), none⟩,
  ⟨none, .op (.store 1 (.tmp 78) (.tmp 77)), none⟩]
def x42_9 : List XOper := [⟨(some 80), .op (.mv (.tmp 0)), none⟩,
  ⟨(some 81), .op (.nilck (.tmp 80)), none⟩,
  ⟨(some 82), .op (.faddr 1 (.tmp 81)), none⟩,
  ⟨(some 83), .op (.load .one 1 (.tmp 82)), none⟩,
  ⟨(some 84), .op (.mv (.tmp 1)), none⟩,
  ⟨(some 85), .op (.iaddrS 1 (.tmp 83) (.tmp 84)), none⟩,
  ⟨(some 86), .op (.load .bool 1 (.tmp 85)), none⟩,
  ⟨(some 79), .op (.mv (.tmp 86)), none⟩]
def x42_10 : List XOper := [⟨(some 87), .op (.faddr 0 (.tmp 5)), none⟩,
  ⟨(some 88), .op (.load (.int .i64) 1 (.tmp 87)), none⟩,
  ⟨(some 89), .callF 56 [(.tmp 88)], none⟩,
  ⟨(some 90), .op (.faddr 0 (.tmp 5)), none⟩,
  ⟨none, .op (.store 1 (.tmp 90) (.tmp 89)), none⟩,
  ⟨(some 91), .op (.faddr 4 (.tmp 5)), none⟩,
  ⟨none, .op (.store 1 (.tmp 91) (.const (.int .i64 8))), none⟩]
def x42_11 : List XOper := [⟨(some 92), .op (.load .agg 5 (.tmp 5)), none⟩,
  ⟨(some 93), .op (.mv (.tmp 7)), none⟩,
  ⟨(some 94), .op (.bin .sub (.tmp 93) (.const (.int .i64 4))), none⟩,
  ⟨(some 95), .op (.build [(.int .i64 0), (.int .i64 0), (.int .i64 0), (.int .i64 0), (.int .i64 0)] [(0, 1, (.const (.int .i64 53))), (4, 1, (.tmp 94))]), none⟩,
  ⟨(some 96), .op (.mkslice [(.int .i64 0), (.int .i64 0), (.int .i64 0), (.int .i64 0), (.int .i64 0)] 2 [(0, (.tmp 92)), (1, (.tmp 95))]), none⟩,
  ⟨(some 4), .op (.mv (.tmp 96)), none⟩]
def x42_12 : XCode := .seq (.region x42_11) .ret
def x42_13 : XCode := .seq (.region x42_10) x42_12
def x42_14 : List XOper := [⟨(some 38), .op (.mv (.tmp 7)), none⟩,
  ⟨(some 39), .op (.faddr 4 (.tmp 5)), none⟩,
  ⟨none, .op (.store 1 (.tmp 39) (.tmp 38)), none⟩]
def x42_15 : XCode := .cnd (.tmp 79) x42_13 (.region x42_14)
def x42_16 : XCode := .seq (.region x42_9) x42_15
def x42_17 : XCode := .cnd (.tmp 61) (.region x42_8) x42_16
def x42_18 : XCode := .seq (.region x42_7) x42_17
def x42_19 : XCode := .cnd (.tmp 43) (.region x42_6) x42_18
def x42_20 : XCode := .seq (.region x42_5) x42_19
def x42_21 : XCode := .cnd (.tmp 40) .skip x42_20
def x42_22 : XCode := .seq (.region x42_4) x42_21
def x42_23 : XCode := .block 0 x42_22
def x42_24 : List XOper := [⟨(some 97), .op (.load .agg 5 (.tmp 5)), none⟩,
  ⟨(some 98), .op (.mkslice [(.int .i64 0), (.int .i64 0), (.int .i64 0), (.int .i64 0), (.int .i64 0)] 1 [(0, (.tmp 97))]), none⟩,
  ⟨(some 4), .op (.mv (.tmp 98)), none⟩]
def x42_25 : XCode := .seq (.region x42_24) .ret
def x42_26 : XCode := .seq x42_23 x42_25
def x42_27 : XCode := .seq (.draw x42_3 [[], [0], [0, 1], [0, 1, 2], [], [0, 1, 2, 3, 4], [], [6], [6, 7], [6, 7, 8], [], [6, 7, 8, 9, 10], [6, 7, 8, 9, 10, 11], [0, 1, 2, 3, 4, 5, 6, 7, 8, 9, 10, 11, 12], [0, 1, 2, 3, 4, 5, 6, 7, 8, 9, 10, 11, 12, 13]]) x42_26
def x42_28 : XCode := .seq (.region x42_2) x42_27
def x42_29 : XCode := .seq (.region x42_1) x42_28
def x42_30 : XCode := .seq (.region x42_0) x42_29
def x42 : XCode := x42_30
theorem fx42 : fnx Try.prog 42 = some (99, [(4, none)], x42) := by kernel_rfl
def x43_0 : List XOper := [⟨(some 0), .op (.mv (.const (.map none))), none⟩]
def x43_1 : List XOper := [⟨(some 3), .op (.mkmap 3 104 (.agg #[(.int .u8 0), (.int .u32 0), (.int .u32 0), (.int .u32 0)])), none⟩,
  ⟨(some 1), .op (.new [(.map none)]), none⟩,
  ⟨none, .op (.store 1 (.tmp 1) (.tmp 3)), none⟩]
def x43_2 : List XOper := [⟨(some 4), .op (.mkfunc (.func 57) 0 [(.tmp 1)]), none⟩,
  ⟨(some 2), .op (.mv (.tmp 4)), none⟩]
def x43_3 : List XOper := [⟨(some 5), .op (.mv (.tmp 2)), none⟩,
  ⟨(some 6), .op (.build [(.int .u32 0), (.int .u32 0), (.int .u32 0)] [(0, 1, (.const (.int .u32 1)))]), none⟩,
  ⟨(some 7), .op (.build [(.int .u32 0), (.int .u32 0), (.int .u32 0)] [(0, 1, (.const (.int .u32 2))), (1, 1, (.const (.int .u32 0))), (2, 1, (.const (.int .u32 32)))]), none⟩,
  ⟨(some 8), .op (.build [(.int .u32 0), (.int .u32 0), (.int .u32 0)] [(0, 1, (.const (.int .u32 3))), (1, 1, (.const (.int .u32 1)))]), none⟩,
  ⟨(some 9), .op (.build [(.int .u32 0), (.int .u32 0), (.int .u32 0)] [(0, 1, (.const (.int .u32 4))), (1, 1, (.const (.int .u32 2)))]), none⟩,
  ⟨(some 10), .op (.build [(.int .u32 0), (.int .u32 0), (.int .u32 0)] [(0, 1, (.const (.int .u32 5))), (1, 1, (.const (.int .u32 3)))]), none⟩,
  ⟨(some 11), .op (.build [(.int .u32 0), (.int .u32 0), (.int .u32 0)] [(0, 1, (.const (.int .u32 6))), (1, 1, (.const (.int .u32 4)))]), none⟩,
  ⟨(some 12), .op (.build [(.int .u32 0), (.int .u32 0), (.int .u32 0)] [(0, 1, (.const (.int .u32 7))), (1, 1, (.const (.int .u32 5)))]), none⟩,
  ⟨(some 13), .op (.build [(.int .u32 0), (.int .u32 0), (.int .u32 0)] [(0, 1, (.const (.int .u32 8))), (1, 1, (.const (.int .u32 5))), (2, 1, (.const (.int .u32 32)))]), none⟩,
  ⟨(some 14), .op (.build [(.int .u32 0), (.int .u32 0), (.int .u32 0)] [(0, 1, (.const (.int .u32 9))), (1, 1, (.const (.int .u32 6)))]), none⟩,
  ⟨(some 15), .op (.build [(.int .u32 0), (.int .u32 0), (.int .u32 0)] [(0, 1, (.const (.int .u32 10))), (1, 1, (.const (.int .u32 7)))]), none⟩,
  ⟨(some 16), .op (.mkslice [(.int .u32 0), (.int .u32 0), (.int .u32 0)] 10 [(0, (.tmp 6)), (1, (.tmp 7)), (2, (.tmp 8)), (3, (.tmp 9)), (4, (.tmp 10)), (5, (.tmp 11)), (6, (.tmp 12)), (7, (.tmp 13)), (8, (.tmp 14)), (9, (.tmp 15))]), none⟩,
  ⟨(some 17), .callV (.tmp 5) [(.const (.int .u8 82)), (.const (.int .u32 51)), (.tmp 16)], none⟩]
def x43_4 : List XOper := [⟨(some 18), .op (.mv (.tmp 2)), none⟩,
  ⟨(some 19), .op (.build [(.int .u32 0), (.int .u32 0), (.int .u32 0)] [(0, 1, (.const (.int .u32 11))), (1, 1, (.const (.int .u32 0))), (2, 1, (.const (.int .u32 1)))]), none⟩,
  ⟨(some 20), .op (.build [(.int .u32 0), (.int .u32 0), (.int .u32 0)] [(0, 1, (.const (.int .u32 12))), (1, 1, (.const (.int .u32 1))), (2, 1, (.const (.int .u32 1)))]), none⟩,
  ⟨(some 21), .op (.build [(.int .u32 0), (.int .u32 0), (.int .u32 0)] [(0, 1, (.const (.int .u32 13))), (1, 1, (.const (.int .u32 3))), (2, 1, (.const (.int .u32 1)))]), none⟩,
  ⟨(some 22), .op (.build [(.int .u32 0), (.int .u32 0), (.int .u32 0)] [(0, 1, (.const (.int .u32 14))), (1, 1, (.const (.int .u32 4))), (2, 1, (.const (.int .u32 1)))]), none⟩,
  ⟨(some 23), .op (.build [(.int .u32 0), (.int .u32 0), (.int .u32 0)] [(0, 1, (.const (.int .u32 15))), (1, 1, (.const (.int .u32 5))), (2, 1, (.const (.int .u32 1)))]), none⟩,
  ⟨(some 24), .op (.build [(.int .u32 0), (.int .u32 0), (.int .u32 0)] [(0, 1, (.const (.int .u32 16))), (1, 1, (.const (.int .u32 6))), (2, 1, (.const (.int .u32 1)))]), none⟩,
  ⟨(some 25), .op (.build [(.int .u32 0), (.int .u32 0), (.int .u32 0)] [(0, 1, (.const (.int .u32 17))), (1, 1, (.const (.int .u32 7))), (2, 1, (.const (.int .u32 1)))]), none⟩,
  ⟨(some 26), .op (.mkslice [(.int .u32 0), (.int .u32 0), (.int .u32 0)] 7 [(0, (.tmp 19)), (1, (.tmp 20)), (2, (.tmp 21)), (3, (.tmp 22)), (4, (.tmp 23)), (5, (.tmp 24)), (6, (.tmp 25))]), none⟩,
  ⟨(some 27), .callV (.tmp 18) [(.const (.int .u8 82)), (.const (.int .u32 51)), (.tmp 26)], none⟩]
def x43_5 : List XOper := [⟨(some 28), .op (.mv (.tmp 2)), none⟩,
  ⟨(some 29), .op (.build [(.int .u32 0), (.int .u32 0), (.int .u32 0)] [(0, 1, (.const (.int .u32 18)))]), none⟩,
  ⟨(some 30), .op (.build [(.int .u32 0), (.int .u32 0), (.int .u32 0)] [(0, 1, (.const (.int .u32 19))), (1, 1, (.const (.int .u32 0))), (2, 1, (.const (.int .u32 32)))]), none⟩,
  ⟨(some 31), .op (.build [(.int .u32 0), (.int .u32 0), (.int .u32 0)] [(0, 1, (.const (.int .u32 20))), (1, 1, (.const (.int .u32 1)))]), none⟩,
  ⟨(some 32), .op (.build [(.int .u32 0), (.int .u32 0), (.int .u32 0)] [(0, 1, (.const (.int .u32 21))), (1, 1, (.const (.int .u32 5)))]), none⟩,
  ⟨(some 33), .op (.build [(.int .u32 0), (.int .u32 0), (.int .u32 0)] [(0, 1, (.const (.int .u32 22))), (1, 1, (.const (.int .u32 5))), (2, 1, (.const (.int .u32 32)))]), none⟩,
  ⟨(some 34), .op (.build [(.int .u32 0), (.int .u32 0), (.int .u32 0)] [(0, 1, (.const (.int .u32 23))), (1, 1, (.const (.int .u32 0))), (2, 1, (.const (.int .u32 1)))]), none⟩,
  ⟨(some 35), .op (.build [(.int .u32 0), (.int .u32 0), (.int .u32 0)] [(0, 1, (.const (.int .u32 24))), (1, 1, (.const (.int .u32 4))), (2, 1, (.const (.int .u32 1)))]), none⟩,
  ⟨(some 36), .op (.build [(.int .u32 0), (.int .u32 0), (.int .u32 0)] [(0, 1, (.const (.int .u32 25))), (1, 1, (.const (.int .u32 5))), (2, 1, (.const (.int .u32 1)))]), none⟩,
  ⟨(some 37), .op (.build [(.int .u32 0), (.int .u32 0), (.int .u32 0)] [(0, 1, (.const (.int .u32 26))), (1, 1, (.const (.int .u32 6))), (2, 1, (.const (.int .u32 1)))]), none⟩,
  ⟨(some 38), .op (.build [(.int .u32 0), (.int .u32 0), (.int .u32 0)] [(0, 1, (.const (.int .u32 27))), (1, 1, (.const (.int .u32 7))), (2, 1, (.const (.int .u32 1)))]), none⟩,
  ⟨(some 39), .op (.mkslice [(.int .u32 0), (.int .u32 0), (.int .u32 0)] 10 [(0, (.tmp 29)), (1, (.tmp 30)), (2, (.tmp 31)), (3, (.tmp 32)), (4, (.tmp 33)), (5, (.tmp 34)), (6, (.tmp 35)), (7, (.tmp 36)), (8, (.tmp 37)), (9, (.tmp 38))]), none⟩,
  ⟨(some 40), .callV (.tmp 28) [(.const (.int .u8 82)), (.const (.int .u32 59)), (.tmp 39)], none⟩]
def x43_6 : List XOper := [⟨(some 41), .op (.mv (.tmp 2)), none⟩,
  ⟨(some 42), .op (.build [(.int .u32 0), (.int .u32 0), (.int .u32 0)] [(0, 1, (.const (.int .u32 28)))]), none⟩,
  ⟨(some 43), .op (.build [(.int .u32 0), (.int .u32 0), (.int .u32 0)] [(0, 1, (.const (.int .u32 29))), (1, 1, (.const (.int .u32 2)))]), none⟩,
  ⟨(some 44), .op (.build [(.int .u32 0), (.int .u32 0), (.int .u32 0)] [(0, 1, (.const (.int .u32 30))), (1, 1, (.const (.int .u32 3)))]), none⟩,
  ⟨(some 45), .op (.build [(.int .u32 0), (.int .u32 0), (.int .u32 0)] [(0, 1, (.const (.int .u32 31))), (1, 1, (.const (.int .u32 4)))]), none⟩,
  ⟨(some 46), .op (.build [(.int .u32 0), (.int .u32 0), (.int .u32 0)] [(0, 1, (.const (.int .u32 32))), (1, 1, (.const (.int .u32 6)))]), none⟩,
  ⟨(some 47), .op (.build [(.int .u32 0), (.int .u32 0), (.int .u32 0)] [(0, 1, (.const (.int .u32 33))), (1, 1, (.const (.int .u32 7)))]), none⟩,
  ⟨(some 48), .op (.mkslice [(.int .u32 0), (.int .u32 0), (.int .u32 0)] 6 [(0, (.tmp 42)), (1, (.tmp 43)), (2, (.tmp 44)), (3, (.tmp 45)), (4, (.tmp 46)), (5, (.tmp 47))]), none⟩,
  ⟨(some 49), .callV (.tmp 41) [(.const (.int .u8 73)), (.const (.int .u32 19)), (.tmp 48)], none⟩]
def x43_7 : List XOper := [⟨(some 50), .op (.mv (.tmp 2)), none⟩,
  ⟨(some 51), .op (.build [(.int .u32 0), (.int .u32 0), (.int .u32 0)] [(0, 1, (.const (.int .u32 34))), (1, 1, (.const (.int .u32 1)))]), none⟩,
  ⟨(some 52), .op (.build [(.int .u32 0), (.int .u32 0), (.int .u32 0)] [(0, 1, (.const (.int .u32 35))), (1, 1, (.const (.int .u32 5)))]), none⟩,
  ⟨(some 53), .op (.build [(.int .u32 0), (.int .u32 0), (.int .u32 0)] [(0, 1, (.const (.int .u32 36))), (1, 1, (.const (.int .u32 5))), (2, 1, (.const (.int .u32 32)))]), none⟩,
  ⟨(some 54), .op (.mkslice [(.int .u32 0), (.int .u32 0), (.int .u32 0)] 3 [(0, (.tmp 51)), (1, (.tmp 52)), (2, (.tmp 53))]), none⟩,
  ⟨(some 55), .callV (.tmp 50) [(.const (.int .u8 84)), (.const (.int .u32 19)), (.tmp 54)], none⟩]
def x43_8 : List XOper := [⟨(some 56), .op (.mv (.tmp 2)), none⟩,
  ⟨(some 57), .op (.build [(.int .u32 0), (.int .u32 0), (.int .u32 0)] [(0, 1, (.const (.int .u32 37)))]), none⟩,
  ⟨(some 58), .op (.mkslice [(.int .u32 0), (.int .u32 0), (.int .u32 0)] 1 [(0, (.tmp 57))]), none⟩,
  ⟨(some 59), .callV (.tmp 56) [(.const (.int .u8 73)), (.const (.int .u32 27)), (.tmp 58)], none⟩]
def x43_9 : List XOper := [⟨(some 60), .op (.mv (.tmp 2)), none⟩,
  ⟨(some 61), .op (.build [(.int .u32 0), (.int .u32 0), (.int .u32 0)] [(0, 1, (.const (.int .u32 38)))]), none⟩,
  ⟨(some 62), .op (.build [(.int .u32 0), (.int .u32 0), (.int .u32 0)] [(0, 1, (.const (.int .u32 40))), (1, 1, (.const (.int .u32 2)))]), none⟩,
  ⟨(some 63), .op (.build [(.int .u32 0), (.int .u32 0), (.int .u32 0)] [(0, 1, (.const (.int .u32 41))), (1, 1, (.const (.int .u32 3)))]), none⟩,
  ⟨(some 64), .op (.build [(.int .u32 0), (.int .u32 0), (.int .u32 0)] [(0, 1, (.const (.int .u32 39))), (1, 1, (.const (.int .u32 4)))]), none⟩,
  ⟨(some 65), .op (.mkslice [(.int .u32 0), (.int .u32 0), (.int .u32 0)] 4 [(0, (.tmp 61)), (1, (.tmp 62)), (2, (.tmp 63)), (3, (.tmp 64))]), none⟩,
  ⟨(some 66), .callV (.tmp 60) [(.const (.int .u8 73)), (.const (.int .u32 3)), (.tmp 65)], none⟩]
def x43_10 : List XOper := [⟨(some 67), .op (.mv (.tmp 2)), none⟩,
  ⟨(some 68), .op (.build [(.int .u32 0), (.int .u32 0), (.int .u32 0)] [(0, 1, (.const (.int .u32 42)))]), none⟩,
  ⟨(some 69), .op (.build [(.int .u32 0), (.int .u32 0), (.int .u32 0)] [(0, 1, (.const (.int .u32 43))), (1, 1, (.const (.int .u32 2)))]), none⟩,
  ⟨(some 70), .op (.build [(.int .u32 0), (.int .u32 0), (.int .u32 0)] [(0, 1, (.const (.int .u32 44))), (1, 1, (.const (.int .u32 3)))]), none⟩,
  ⟨(some 71), .op (.mkslice [(.int .u32 0), (.int .u32 0), (.int .u32 0)] 3 [(0, (.tmp 68)), (1, (.tmp 69)), (2, (.tmp 70))]), none⟩,
  ⟨(some 72), .callV (.tmp 67) [(.const (.int .u8 83)), (.const (.int .u32 35)), (.tmp 71)], none⟩]
def x43_11 : List XOper := [⟨(some 73), .op (.mv (.tmp 2)), none⟩,
  ⟨(some 74), .op (.build [(.int .u32 0), (.int .u32 0), (.int .u32 0)] [(0, 1, (.const (.int .u32 45)))]), none⟩,
  ⟨(some 75), .op (.build [(.int .u32 0), (.int .u32 0), (.int .u32 0)] [(0, 1, (.const (.int .u32 46))), (1, 1, (.const (.int .u32 1)))]), none⟩,
  ⟨(some 76), .op (.build [(.int .u32 0), (.int .u32 0), (.int .u32 0)] [(0, 1, (.const (.int .u32 47))), (1, 1, (.const (.int .u32 4)))]), none⟩,
  ⟨(some 77), .op (.build [(.int .u32 0), (.int .u32 0), (.int .u32 0)] [(0, 1, (.const (.int .u32 48))), (1, 1, (.const (.int .u32 5)))]), none⟩,
  ⟨(some 78), .op (.build [(.int .u32 0), (.int .u32 0), (.int .u32 0)] [(0, 1, (.const (.int .u32 49))), (1, 1, (.const (.int .u32 6)))]), none⟩,
  ⟨(some 79), .op (.build [(.int .u32 0), (.int .u32 0), (.int .u32 0)] [(0, 1, (.const (.int .u32 50))), (1, 1, (.const (.int .u32 7)))]), none⟩,
  ⟨(some 80), .op (.mkslice [(.int .u32 0), (.int .u32 0), (.int .u32 0)] 6 [(0, (.tmp 74)), (1, (.tmp 75)), (2, (.tmp 76)), (3, (.tmp 77)), (4, (.tmp 78)), (5, (.tmp 79))]), none⟩,
  ⟨(some 81), .callV (.tmp 73) [(.const (.int .u8 66)), (.const (.int .u32 99)), (.tmp 80)], none⟩]
def x43_12 : List XOper := [⟨(some 82), .op (.mv (.tmp 2)), none⟩,
  ⟨(some 83), .op (.build [(.int .u32 0), (.int .u32 0), (.int .u32 0)] [(0, 1, (.const (.int .u32 51)))]), none⟩,
  ⟨(some 84), .op (.mkslice [(.int .u32 0), (.int .u32 0), (.int .u32 0)] 1 [(0, (.tmp 83))]), none⟩,
  ⟨(some 85), .callV (.tmp 82) [(.const (.int .u8 85)), (.const (.int .u32 55)), (.tmp 84)], none⟩]
def x43_13 : List XOper := [⟨(some 86), .op (.mv (.tmp 2)), none⟩,
  ⟨(some 87), .op (.build [(.int .u32 0), (.int .u32 0), (.int .u32 0)] [(0, 1, (.const (.int .u32 52)))]), none⟩,
  ⟨(some 88), .op (.mkslice [(.int .u32 0), (.int .u32 0), (.int .u32 0)] 1 [(0, (.tmp 87))]), none⟩,
  ⟨(some 89), .callV (.tmp 86) [(.const (.int .u8 85)), (.const (.int .u32 23)), (.tmp 88)], none⟩]
def x43_14 : List XOper := [⟨(some 90), .op (.mv (.tmp 2)), none⟩,
  ⟨(some 91), .op (.build [(.int .u32 0), (.int .u32 0), (.int .u32 0)] [(0, 1, (.const (.int .u32 53)))]), none⟩,
  ⟨(some 92), .op (.mkslice [(.int .u32 0), (.int .u32 0), (.int .u32 0)] 1 [(0, (.tmp 91))]), none⟩,
  ⟨(some 93), .callV (.tmp 90) [(.const (.int .u8 74)), (.const (.int .u32 111)), (.tmp 92)], none⟩]
def x43_15 : List XOper := [⟨(some 94), .op (.mv (.tmp 2)), none⟩,
  ⟨(some 95), .op (.build [(.int .u32 0), (.int .u32 0), (.int .u32 0)] [(0, 1, (.const (.int .u32 54)))]), none⟩,
  ⟨(some 96), .op (.mkslice [(.int .u32 0), (.int .u32 0), (.int .u32 0)] 1 [(0, (.tmp 95))]), none⟩,
  ⟨(some 97), .callV (.tmp 94) [(.const (.int .u8 73)), (.const (.int .u32 103)), (.tmp 96)], none⟩]
def x43_16 : List XOper := [⟨(some 98), .op (.mv (.tmp 2)), none⟩,
  ⟨(some 99), .op (.build [(.int .u32 0), (.int .u32 0), (.int .u32 0)] [(0, 1, (.const (.int .u32 55)))]), none⟩,
  ⟨(some 100), .op (.mkslice [(.int .u32 0), (.int .u32 0), (.int .u32 0)] 1 [(0, (.tmp 99))]), none⟩,
  ⟨(some 101), .callV (.tmp 98) [(.const (.int .u8 78)), (.const (.int .u32 115)), (.tmp 100)], none⟩]
def x43_17 : List XOper := [⟨(some 102), .op (.load .one 1 (.tmp 1)), none⟩,
  ⟨(some 0), .op (.mv (.tmp 102)), none⟩]
def x43_18 : XCode := .seq (.region x43_17) .ret
def x43_19 : XCode := .seq (.region x43_16) x43_18
def x43_20 : XCode := .seq (.region x43_15) x43_19
def x43_21 : XCode := .seq (.region x43_14) x43_20
def x43_22 : XCode := .seq (.region x43_13) x43_21
def x43_23 : XCode := .seq (.region x43_12) x43_22
def x43_24 : XCode := .seq (.region x43_11) x43_23
def x43_25 : XCode := .seq (.region x43_10) x43_24
def x43_26 : XCode := .seq (.region x43_9) x43_25
def x43_27 : XCode := .seq (.region x43_8) x43_26
def x43_28 : XCode := .seq (.region x43_7) x43_27
def x43_29 : XCode := .seq (.region x43_6) x43_28
def x43_30 : XCode := .seq (.region x43_5) x43_29
def x43_31 : XCode := .seq (.region x43_4) x43_30
def x43_32 : XCode := .seq (.region x43_3) x43_31
def x43_33 : XCode := .seq (.region x43_2) x43_32
def x43_34 : XCode := .seq (.region x43_1) x43_33
def x43_35 : XCode := .seq (.region x43_0) x43_34
def x43 : XCode := x43_35
theorem fx43 : fnx Try.prog 43 = some (103, [(0, none)], x43) := by kernel_rfl
def x44_0 : List XOper := [⟨(some 2), .op (.mv (.const (.int .i64 0))), none⟩,
  ⟨(some 3), .op (.mv (.const (.int .i64 0))), none⟩]
def x44_1 : List XOper := [⟨(some 4), .op (.mv (.tmp 0)), none⟩]
def x44_2 : List XOper := [⟨(some 6), .op (.bin .eql (.tmp 4) (.const (.int .u8 73))), none⟩,
  ⟨(some 5), .op (.mv (.tmp 6)), none⟩]
def x44_3 : List XOper := [⟨(some 7), .op (.bin .eql (.tmp 4) (.const (.int .u8 83))), none⟩,
  ⟨(some 5), .op (.mv (.tmp 7)), none⟩]
def x44_4 : XCode := .cnd (.tmp 5) .skip (.region x44_3)
def x44_5 : XCode := .seq (.region x44_2) x44_4
def x44_6 : List XOper := [⟨(some 2), .op (.mv (.const (.int .i64 (-2048)))), none⟩,
  ⟨(some 3), .op (.mv (.const (.int .i64 2047))), none⟩]
def x44_7 : XCode := .seq (.region x44_6) .ret
def x44_8 : List XOper := [⟨(some 9), .op (.bin .eql (.tmp 4) (.const (.int .u8 84))), none⟩,
  ⟨(some 8), .op (.mv (.tmp 9)), none⟩]
def x44_9 : List XOper := [⟨(some 2), .op (.mv (.const (.int .i64 0))), none⟩,
  ⟨(some 3), .op (.mv (.const (.int .i64 63))), none⟩]
def x44_10 : XCode := .seq (.region x44_9) .ret
def x44_11 : List XOper := [⟨(some 11), .op (.bin .eql (.tmp 4) (.const (.int .u8 66))), none⟩,
  ⟨(some 10), .op (.mv (.tmp 11)), none⟩]
def x44_12 : List XOper := [⟨(some 2), .op (.mv (.const (.int .i64 (-4096)))), none⟩,
  ⟨(some 3), .op (.mv (.const (.int .i64 4094))), none⟩]
def x44_13 : XCode := .seq (.region x44_12) .ret
def x44_14 : List XOper := [⟨(some 13), .op (.bin .eql (.tmp 4) (.const (.int .u8 85))), none⟩,
  ⟨(some 12), .op (.mv (.tmp 13)), none⟩]
def x44_15 : List XOper := [⟨(some 2), .op (.mv (.const (.int .i64 (-524288)))), none⟩,
  ⟨(some 3), .op (.mv (.const (.int .i64 524287))), none⟩]
def x44_16 : XCode := .seq (.region x44_15) .ret
def x44_17 : List XOper := [⟨(some 15), .op (.bin .eql (.tmp 4) (.const (.int .u8 74))), none⟩,
  ⟨(some 14), .op (.mv (.tmp 15)), none⟩]
def x44_18 : List XOper := [⟨(some 2), .op (.mv (.const (.int .i64 (-1048576)))), none⟩,
  ⟨(some 3), .op (.mv (.const (.int .i64 1048574))), none⟩]
def x44_19 : XCode := .seq (.region x44_18) .ret
def x44_20 : XCode := .cnd (.tmp 14) x44_19 .skip
def x44_21 : XCode := .seq (.region x44_17) x44_20
def x44_22 : XCode := .cnd (.tmp 12) x44_16 x44_21
def x44_23 : XCode := .seq (.region x44_14) x44_22
def x44_24 : XCode := .cnd (.tmp 10) x44_13 x44_23
def x44_25 : XCode := .seq (.region x44_11) x44_24
def x44_26 : XCode := .cnd (.tmp 8) x44_10 x44_25
def x44_27 : XCode := .seq (.region x44_8) x44_26
def x44_28 : XCode := .cnd (.tmp 5) x44_7 x44_27
def x44_29 : XCode := .seq x44_5 x44_28
def x44_30 : XCode := .block 0 x44_29
def x44_31 : XCode := .seq (.region x44_1) x44_30
def x44_32 : List XOper := [⟨(some 2), .op (.mv (.const (.int .i64 1))), none⟩,
  ⟨(some 3), .op (.mv (.const (.int .i64 0))), none⟩]
def x44_33 : XCode := .seq (.region x44_32) .ret
def x44_34 : XCode := .seq x44_31 x44_33
def x44_35 : XCode := .seq (.region x44_0) x44_34
def x44 : XCode := x44_35
theorem fx44 : fnx Try.prog 44 = some (16, [(2, none), (3, none)], x44) := by kernel_rfl
def x45_0 : List XOper := [⟨(some 2), .op (.new [(.bool false), (.bool false), (.bool false)]), none⟩]
def x45_1 : List XOper := [⟨(some 3), .op (.mv (.tmp 0)), none⟩]
def x45_2 : List XOper := [⟨(some 5), .op (.bin .eql (.tmp 3) (.const (.int .u8 82))), none⟩,
  ⟨(some 4), .op (.mv (.tmp 5)), none⟩]
def x45_3 : List XOper := [⟨(some 6), .op (.build [(.bool false), (.bool false), (.bool false)] [(0, 1, (.const (.bool true))), (1, 1, (.const (.bool true))), (2, 1, (.const (.bool true)))]), none⟩,
  ⟨none, .op (.store 3 (.tmp 2) (.tmp 6)), none⟩]
def x45_4 : XCode := .seq (.region x45_3) .ret
def x45_5 : List XOper := [⟨(some 8), .op (.bin .eql (.tmp 3) (.const (.int .u8 73))), none⟩,
  ⟨(some 7), .op (.mv (.tmp 8)), none⟩]
def x45_6 : List XOper := [⟨(some 9), .op (.bin .eql (.tmp 3) (.const (.int .u8 84))), none⟩,
  ⟨(some 7), .op (.mv (.tmp 9)), none⟩]
def x45_7 : XCode := .cnd (.tmp 7) .skip (.region x45_6)
def x45_8 : XCode := .seq (.region x45_5) x45_7
def x45_9 : List XOper := [⟨(some 10), .op (.build [(.bool false), (.bool false), (.bool false)] [(0, 1, (.const (.bool true))), (1, 1, (.const (.bool true))), (2, 1, (.const (.bool false)))]), none⟩,
  ⟨none, .op (.store 3 (.tmp 2) (.tmp 10)), none⟩]
def x45_10 : XCode := .seq (.region x45_9) .ret
def x45_11 : List XOper := [⟨(some 12), .op (.bin .eql (.tmp 3) (.const (.int .u8 83))), none⟩,
  ⟨(some 11), .op (.mv (.tmp 12)), none⟩]
def x45_12 : List XOper := [⟨(some 13), .op (.bin .eql (.tmp 3) (.const (.int .u8 66))), none⟩,
  ⟨(some 11), .op (.mv (.tmp 13)), none⟩]
def x45_13 : XCode := .cnd (.tmp 11) .skip (.region x45_12)
def x45_14 : XCode := .seq (.region x45_11) x45_13
def x45_15 : List XOper := [⟨(some 14), .op (.build [(.bool false), (.bool false), (.bool false)] [(0, 1, (.const (.bool false))), (1, 1, (.const (.bool true))), (2, 1, (.const (.bool true)))]), none⟩,
  ⟨none, .op (.store 3 (.tmp 2) (.tmp 14)), none⟩]
def x45_16 : XCode := .seq (.region x45_15) .ret
def x45_17 : List XOper := [⟨(some 16), .op (.bin .eql (.tmp 3) (.const (.int .u8 85))), none⟩,
  ⟨(some 15), .op (.mv (.tmp 16)), none⟩]
def x45_18 : List XOper := [⟨(some 17), .op (.bin .eql (.tmp 3) (.const (.int .u8 74))), none⟩,
  ⟨(some 15), .op (.mv (.tmp 17)), none⟩]
def x45_19 : XCode := .cnd (.tmp 15) .skip (.region x45_18)
def x45_20 : XCode := .seq (.region x45_17) x45_19
def x45_21 : List XOper := [⟨(some 18), .op (.build [(.bool false), (.bool false), (.bool false)] [(0, 1, (.const (.bool true))), (1, 1, (.const (.bool false))), (2, 1, (.const (.bool false)))]), none⟩,
  ⟨none, .op (.store 3 (.tmp 2) (.tmp 18)), none⟩]
def x45_22 : XCode := .seq (.region x45_21) .ret
def x45_23 : XCode := .cnd (.tmp 15) x45_22 .skip
def x45_24 : XCode := .seq x45_20 x45_23
def x45_25 : XCode := .cnd (.tmp 11) x45_16 x45_24
def x45_26 : XCode := .seq x45_14 x45_25
def x45_27 : XCode := .cnd (.tmp 7) x45_10 x45_26
def x45_28 : XCode := .seq x45_8 x45_27
def x45_29 : XCode := .cnd (.tmp 4) x45_4 x45_28
def x45_30 : XCode := .seq (.region x45_2) x45_29
def x45_31 : XCode := .block 0 x45_30
def x45_32 : XCode := .seq (.region x45_1) x45_31
def x45_33 : List XOper := [⟨(some 19), .op (.build [(.bool false), (.bool false), (.bool false)] []), none⟩,
  ⟨none, .op (.store 3 (.tmp 2) (.tmp 19)), none⟩]
def x45_34 : XCode := .seq (.region x45_33) .ret
def x45_35 : XCode := .seq x45_32 x45_34
def x45_36 : XCode := .seq (.region x45_0) x45_35
def x45 : XCode := x45_36
theorem fx45 : fnx Try.prog 45 = some (20, [(2, (some (.agg, 3)))], x45) := by kernel_rfl
def x46_0 : List XOper := [⟨(some 2), .op (.mv (.const (.slice none 0 0))), none⟩]
def x46_1 : List XOper := [⟨(some 3), .op (.mv (.tmp 0)), none⟩]
def x46_2 : List XOper := [⟨(some 5), .op (.bin .eql (.tmp 3) (.const (.int .u8 73))), none⟩,
  ⟨(some 4), .op (.mv (.tmp 5)), none⟩]
def x46_3 : List XOper := [⟨(some 6), .op (.build [(.int .u64 0), (.int .u64 0), (.int .u64 0)] [(0, 1, (.const (.int .u64 0))), (1, 1, (.const (.int .u64 12))), (2, 1, (.const (.int .u64 20)))]), none⟩,
  ⟨(some 7), .op (.mkslice [(.int .u64 0), (.int .u64 0), (.int .u64 0)] 1 [(0, (.tmp 6))]), none⟩,
  ⟨(some 2), .op (.mv (.tmp 7)), none⟩]
def x46_4 : XCode := .seq (.region x46_3) .ret
def x46_5 : List XOper := [⟨(some 9), .op (.bin .eql (.tmp 3) (.const (.int .u8 84))), none⟩,
  ⟨(some 8), .op (.mv (.tmp 9)), none⟩]
def x46_6 : List XOper := [⟨(some 10), .op (.build [(.int .u64 0), (.int .u64 0), (.int .u64 0)] [(0, 1, (.const (.int .u64 0))), (1, 1, (.const (.int .u64 6))), (2, 1, (.const (.int .u64 20)))]), none⟩,
  ⟨(some 11), .op (.mkslice [(.int .u64 0), (.int .u64 0), (.int .u64 0)] 1 [(0, (.tmp 10))]), none⟩,
  ⟨(some 2), .op (.mv (.tmp 11)), none⟩]
def x46_7 : XCode := .seq (.region x46_6) .ret
def x46_8 : List XOper := [⟨(some 13), .op (.bin .eql (.tmp 3) (.const (.int .u8 83))), none⟩,
  ⟨(some 12), .op (.mv (.tmp 13)), none⟩]
def x46_9 : List XOper := [⟨(some 14), .op (.build [(.int .u64 0), (.int .u64 0), (.int .u64 0)] [(0, 1, (.const (.int .u64 0))), (1, 1, (.const (.int .u64 5))), (2, 1, (.const (.int .u64 7)))]), none⟩,
  ⟨(some 15), .op (.build [(.int .u64 0), (.int .u64 0), (.int .u64 0)] [(0, 1, (.const (.int .u64 5))), (1, 1, (.const (.int .u64 7))), (2, 1, (.const (.int .u64 25)))]), none⟩,
  ⟨(some 16), .op (.mkslice [(.int .u64 0), (.int .u64 0), (.int .u64 0)] 2 [(0, (.tmp 14)), (1, (.tmp 15))]), none⟩,
  ⟨(some 2), .op (.mv (.tmp 16)), none⟩]
def x46_10 : XCode := .seq (.region x46_9) .ret
def x46_11 : List XOper := [⟨(some 18), .op (.bin .eql (.tmp 3) (.const (.int .u8 66))), none⟩,
  ⟨(some 17), .op (.mv (.tmp 18)), none⟩]
def x46_12 : List XOper := [⟨(some 19), .op (.build [(.int .u64 0), (.int .u64 0), (.int .u64 0)] [(0, 1, (.const (.int .u64 11))), (1, 1, (.const (.int .u64 1))), (2, 1, (.const (.int .u64 7)))]), none⟩,
  ⟨(some 20), .op (.build [(.int .u64 0), (.int .u64 0), (.int .u64 0)] [(0, 1, (.const (.int .u64 1))), (1, 1, (.const (.int .u64 4))), (2, 1, (.const (.int .u64 8)))]), none⟩,
  ⟨(some 21), .op (.build [(.int .u64 0), (.int .u64 0), (.int .u64 0)] [(0, 1, (.const (.int .u64 5))), (1, 1, (.const (.int .u64 6))), (2, 1, (.const (.int .u64 25)))]), none⟩,
  ⟨(some 22), .op (.build [(.int .u64 0), (.int .u64 0), (.int .u64 0)] [(0, 1, (.const (.int .u64 12))), (1, 1, (.const (.int .u64 1))), (2, 1, (.const (.int .u64 31)))]), none⟩,
  ⟨(some 23), .op (.mkslice [(.int .u64 0), (.int .u64 0), (.int .u64 0)] 4 [(0, (.tmp 19)), (1, (.tmp 20)), (2, (.tmp 21)), (3, (.tmp 22))]), none⟩,
  ⟨(some 2), .op (.mv (.tmp 23)), none⟩]
def x46_13 : XCode := .seq (.region x46_12) .ret
def x46_14 : List XOper := [⟨(some 25), .op (.bin .eql (.tmp 3) (.const (.int .u8 85))), none⟩,
  ⟨(some 24), .op (.mv (.tmp 25)), none⟩]
def x46_15 : List XOper := [⟨(some 26), .op (.build [(.int .u64 0), (.int .u64 0), (.int .u64 0)] [(0, 1, (.const (.int .u64 0))), (1, 1, (.const (.int .u64 20))), (2, 1, (.const (.int .u64 12)))]), none⟩,
  ⟨(some 27), .op (.mkslice [(.int .u64 0), (.int .u64 0), (.int .u64 0)] 1 [(0, (.tmp 26))]), none⟩,
  ⟨(some 2), .op (.mv (.tmp 27)), none⟩]
def x46_16 : XCode := .seq (.region x46_15) .ret
def x46_17 : List XOper := [⟨(some 29), .op (.bin .eql (.tmp 3) (.const (.int .u8 74))), none⟩,
  ⟨(some 28), .op (.mv (.tmp 29)), none⟩]
def x46_18 : List XOper := [⟨(some 30), .op (.build [(.int .u64 0), (.int .u64 0), (.int .u64 0)] [(0, 1, (.const (.int .u64 12))), (1, 1, (.const (.int .u64 8))), (2, 1, (.const (.int .u64 12)))]), none⟩,
  ⟨(some 31), .op (.build [(.int .u64 0), (.int .u64 0), (.int .u64 0)] [(0, 1, (.const (.int .u64 11))), (1, 1, (.const (.int .u64 1))), (2, 1, (.const (.int .u64 20)))]), none⟩,
  ⟨(some 32), .op (.build [(.int .u64 0), (.int .u64 0), (.int .u64 0)] [(0, 1, (.const (.int .u64 1))), (1, 1, (.const (.int .u64 10))), (2, 1, (.const (.int .u64 21)))]), none⟩,
  ⟨(some 33), .op (.build [(.int .u64 0), (.int .u64 0), (.int .u64 0)] [(0, 1, (.const (.int .u64 20))), (1, 1, (.const (.int .u64 1))), (2, 1, (.const (.int .u64 31)))]), none⟩,
  ⟨(some 34), .op (.mkslice [(.int .u64 0), (.int .u64 0), (.int .u64 0)] 4 [(0, (.tmp 30)), (1, (.tmp 31)), (2, (.tmp 32)), (3, (.tmp 33))]), none⟩,
  ⟨(some 2), .op (.mv (.tmp 34)), none⟩]
def x46_19 : XCode := .seq (.region x46_18) .ret
def x46_20 : XCode := .cnd (.tmp 28) x46_19 .skip
def x46_21 : XCode := .seq (.region x46_17) x46_20
def x46_22 : XCode := .cnd (.tmp 24) x46_16 x46_21
def x46_23 : XCode := .seq (.region x46_14) x46_22
def x46_24 : XCode := .cnd (.tmp 17) x46_13 x46_23
def x46_25 : XCode := .seq (.region x46_11) x46_24
def x46_26 : XCode := .cnd (.tmp 12) x46_10 x46_25
def x46_27 : XCode := .seq (.region x46_8) x46_26
def x46_28 : XCode := .cnd (.tmp 8) x46_7 x46_27
def x46_29 : XCode := .seq (.region x46_5) x46_28
def x46_30 : XCode := .cnd (.tmp 4) x46_4 x46_29
def x46_31 : XCode := .seq (.region x46_2) x46_30
def x46_32 : XCode := .block 0 x46_31
def x46_33 : XCode := .seq (.region x46_1) x46_32
def x46_34 : List XOper := [⟨(some 2), .op (.mv (.const (.slice none 0 0))), none⟩]
def x46_35 : XCode := .seq (.region x46_34) .ret
def x46_36 : XCode := .seq x46_33 x46_35
def x46_37 : XCode := .seq (.region x46_0) x46_36
def x46 : XCode := x46_37
theorem fx46 : fnx Try.prog 46 = some (35, [(2, none)], x46) := by kernel_rfl
def x51_0 : List XOper := [⟨(some 1), .op (.box (.tmp 0)), none⟩,
  ⟨(some 2), .op (.mv (.const (.bool false))), none⟩]
def x51_1 : List XOper := [⟨(some 5), .op (.faddr 0 (.tmp 1)), none⟩,
  ⟨(some 6), .op (.load .str 1 (.tmp 5)), none⟩,
  ⟨(some 7), .op (.bin .neq (.tmp 6) (.const (.string ⟨#[]⟩))), none⟩]
def x51_2 : List XOper := [⟨(some 8), .op (.faddr 1 (.tmp 1)), none⟩,
  ⟨(some 9), .op (.load .agg 5 (.tmp 8)), none⟩,
  ⟨(some 10), .op (.build [(.int .i64 0), (.int .i64 0), (.int .i64 0), (.int .i64 0), (.int .i64 0)] []), none⟩,
  ⟨(some 11), .op (.eqagg false [0, 0, 0, 0, 0] (.tmp 9) (.tmp 10)), none⟩,
  ⟨(some 12), .op (.mv (.tmp 11)), none⟩,
  ⟨(some 13), .op (.faddr 6 (.tmp 1)), (some (12, true))⟩,
  ⟨(some 14), .op (.load .str 1 (.tmp 13)), (some (12, true))⟩,
  ⟨(some 15), .op (.bin .eql (.tmp 14) (.const (.string ⟨#[]⟩))), (some (12, true))⟩,
  ⟨(some 16), .pick (.tmp 12) (.tmp 15) (.const (.bool false)), none⟩,
  ⟨(some 17), .op (.mv (.tmp 16)), none⟩,
  ⟨(some 18), .op (.faddr 7 (.tmp 1)), (some (17, true))⟩,
  ⟨(some 19), .op (.load (.int .i64) 1 (.tmp 18)), (some (17, true))⟩,
  ⟨(some 20), .op (.bin .eql (.tmp 19) (.const (.int .i64 0))), (some (17, true))⟩,
  ⟨(some 21), .pick (.tmp 17) (.tmp 20) (.const (.bool false)), none⟩,
  ⟨(some 2), .op (.mv (.tmp 21)), none⟩]
def x51_3 : XCode := .seq (.region x51_2) .ret
def x51_4 : XCode := .cnd (.tmp 7) x51_3 .skip
def x51_5 : XCode := .seq (.region x51_1) x51_4
def x51_6 : List XOper := [⟨(some 23), .op (.faddr 1 (.tmp 1)), none⟩,
  ⟨(some 24), .op (.load .agg 5 (.tmp 23)), none⟩,
  ⟨(some 25), .callF 18 [(.tmp 24)], none⟩,
  ⟨(some 22), .op (.mv (.tmp 25)), none⟩,
  ⟨(some 26), .op (.ext (.tmp 22) 0), none⟩,
  ⟨(some 27), .op (.ext (.tmp 22) 1), none⟩,
  ⟨(some 3), .op (.mv (.tmp 26)), none⟩,
  ⟨(some 4), .op (.mv (.tmp 27)), none⟩]
def x51_7 : List XOper := [⟨(some 28), .op (.mv (.tmp 4)), none⟩,
  ⟨(some 29), .op (.bin .neq (.tmp 28) (.const (.int .i64 0))), none⟩]
def x51_8 : List XOper := [⟨(some 2), .op (.mv (.const (.bool false))), none⟩]
def x51_9 : XCode := .seq (.region x51_8) .ret
def x51_10 : XCode := .cnd (.tmp 29) x51_9 .skip
def x51_11 : XCode := .seq (.region x51_7) x51_10
def x51_12 : XCode := .seq (.region x51_6) x51_11
def x51_13 : List XOper := [⟨(some 31), .op (.faddr 6 (.tmp 1)), none⟩,
  ⟨(some 32), .op (.load .str 1 (.tmp 31)), none⟩,
  ⟨(some 33), .op (.bin .eql (.tmp 32) (.const (.string ⟨#[]⟩))), none⟩,
  ⟨(some 30), .op (.mv (.tmp 33)), none⟩]
def x51_14 : List XOper := [⟨(some 34), .op (.faddr 7 (.tmp 1)), none⟩,
  ⟨(some 35), .op (.load (.int .i64) 1 (.tmp 34)), none⟩,
  ⟨(some 36), .op (.bin .eql (.tmp 35) (.const (.int .i64 0))), none⟩,
  ⟨(some 2), .op (.mv (.tmp 36)), none⟩]
def x51_15 : XCode := .seq (.region x51_14) .ret
def x51_16 : List XOper := [⟨(some 38), .op (.faddr 1 (.tmp 1)), none⟩,
  ⟨(some 39), .op (.faddr 0 (.tmp 38)), none⟩,
  ⟨(some 40), .op (.load (.int .i64) 1 (.tmp 39)), none⟩,
  ⟨(some 41), .callF 52 [(.tmp 40)], none⟩,
  ⟨(some 42), .op (.mv (.tmp 41)), none⟩,
  ⟨(some 43), .op (.faddr 1 (.tmp 1)), (some (42, false))⟩,
  ⟨(some 44), .op (.faddr 0 (.tmp 43)), (some (42, false))⟩,
  ⟨(some 45), .op (.load (.int .i64) 1 (.tmp 44)), (some (42, false))⟩,
  ⟨(some 46), .op (.bin .eql (.tmp 45) (.const (.int .i64 53))), (some (42, false))⟩,
  ⟨(some 47), .pick (.tmp 42) (.const (.bool true)) (.tmp 46), none⟩,
  ⟨(some 37), .op (.mv (.tmp 47)), none⟩]
def x51_17 : List XOper := [⟨(some 48), .op (.faddr 7 (.tmp 1)), none⟩,
  ⟨(some 49), .op (.load (.int .i64) 1 (.tmp 48)), none⟩,
  ⟨(some 50), .op (.bin .eql (.tmp 49) (.const (.int .i64 0))), none⟩,
  ⟨(some 51), .op (.mv (.tmp 50)), none⟩,
  ⟨(some 52), .op (.faddr 1 (.tmp 1)), (some (51, true))⟩,
  ⟨(some 53), .op (.faddr 4 (.tmp 52)), (some (51, true))⟩,
  ⟨(some 54), .op (.load (.int .i64) 1 (.tmp 53)), (some (51, true))⟩,
  ⟨(some 55), .op (.bin .eql (.tmp 54) (.const (.int .i64 0))), (some (51, true))⟩,
  ⟨(some 56), .pick (.tmp 51) (.tmp 55) (.const (.bool false)), none⟩,
  ⟨(some 2), .op (.mv (.tmp 56)), none⟩]
def x51_18 : XCode := .seq (.region x51_17) .ret
def x51_19 : List XOper := [⟨(some 58), .op (.faddr 1 (.tmp 1)), none⟩,
  ⟨(some 59), .op (.faddr 0 (.tmp 58)), none⟩,
  ⟨(some 60), .op (.load (.int .i64) 1 (.tmp 59)), none⟩,
  ⟨(some 61), .op (.bin .eql (.tmp 60) (.const (.int .i64 51))), none⟩,
  ⟨(some 57), .op (.mv (.tmp 61)), none⟩]
def x51_20 : List XOper := [⟨(some 62), .op (.faddr 7 (.tmp 1)), none⟩,
  ⟨(some 63), .op (.load (.int .i64) 1 (.tmp 62)), none⟩,
  ⟨(some 64), .op (.bin .eql (.tmp 63) (.const (.int .i64 1))), none⟩,
  ⟨(some 65), .op (.mv (.tmp 64)), none⟩,
  ⟨(some 66), .op (.faddr 1 (.tmp 1)), (some (65, true))⟩,
  ⟨(some 67), .op (.faddr 4 (.tmp 66)), (some (65, true))⟩,
  ⟨(some 68), .op (.load (.int .i64) 1 (.tmp 67)), (some (65, true))⟩,
  ⟨(some 69), .op (.bin .eql (.tmp 68) (.const (.int .i64 0))), (some (65, true))⟩,
  ⟨(some 70), .pick (.tmp 65) (.tmp 69) (.const (.bool false)), none⟩,
  ⟨(some 2), .op (.mv (.tmp 70)), none⟩]
def x51_21 : XCode := .seq (.region x51_20) .ret
def x51_22 : List XOper := [⟨(some 72), .op (.faddr 1 (.tmp 1)), none⟩,
  ⟨(some 73), .op (.faddr 0 (.tmp 72)), none⟩,
  ⟨(some 74), .op (.load (.int .i64) 1 (.tmp 73)), none⟩,
  ⟨(some 75), .op (.bin .eql (.tmp 74) (.const (.int .i64 28))), none⟩,
  ⟨(some 71), .op (.mv (.tmp 75)), none⟩]
def x51_23 : List XOper := [⟨(some 76), .op (.faddr 7 (.tmp 1)), none⟩,
  ⟨(some 77), .op (.load (.int .i64) 1 (.tmp 76)), none⟩,
  ⟨(some 78), .op (.bin .eql (.tmp 77) (.const (.int .i64 2))), none⟩,
  ⟨(some 79), .op (.mv (.tmp 78)), none⟩,
  ⟨(some 80), .op (.faddr 1 (.tmp 1)), (some (79, true))⟩,
  ⟨(some 81), .op (.faddr 4 (.tmp 80)), (some (79, true))⟩,
  ⟨(some 82), .op (.load (.int .i64) 1 (.tmp 81)), (some (79, true))⟩,
  ⟨(some 83), .op (.bin .eql (.tmp 82) (.const (.int .i64 0))), (some (79, true))⟩,
  ⟨(some 84), .pick (.tmp 79) (.tmp 83) (.const (.bool false)), none⟩,
  ⟨(some 2), .op (.mv (.tmp 84)), none⟩]
def x51_24 : XCode := .seq (.region x51_23) .ret
def x51_25 : XCode := .cnd (.tmp 71) x51_24 .skip
def x51_26 : XCode := .seq (.region x51_22) x51_25
def x51_27 : XCode := .cnd (.tmp 57) x51_21 x51_26
def x51_28 : XCode := .seq (.region x51_19) x51_27
def x51_29 : XCode := .cnd (.tmp 37) x51_18 x51_28
def x51_30 : XCode := .seq (.region x51_16) x51_29
def x51_31 : XCode := .cnd (.tmp 30) x51_15 x51_30
def x51_32 : XCode := .seq (.region x51_13) x51_31
def x51_33 : XCode := .block 0 x51_32
def x51_34 : List XOper := [⟨(some 2), .op (.mv (.const (.bool false))), none⟩]
def x51_35 : XCode := .seq (.region x51_34) .ret
def x51_36 : XCode := .seq x51_33 x51_35
def x51_37 : XCode := .seq x51_12 x51_36
def x51_38 : XCode := .seq x51_5 x51_37
def x51_39 : XCode := .seq (.region x51_0) x51_38
def x51 : XCode := x51_39
theorem fx51 : fnx Try.prog 51 = some (85, [(2, none)], x51) := by kernel_rfl
def x52_0 : List XOper := [⟨(some 2), .op (.mv (.const (.bool false))), none⟩]
def x52_1 : List XOper := [⟨(some 3), .op (.mv (.tmp 0)), none⟩,
  ⟨(some 4), .op (.bin .geq (.tmp 3) (.const (.int .i64 45))), none⟩,
  ⟨(some 5), .op (.mv (.tmp 4)), none⟩,
  ⟨(some 6), .op (.mv (.tmp 0)), (some (5, true))⟩,
  ⟨(some 7), .op (.bin .leq (.tmp 6) (.const (.int .i64 50))), (some (5, true))⟩,
  ⟨(some 8), .pick (.tmp 5) (.tmp 7) (.const (.bool false)), none⟩,
  ⟨(some 2), .op (.mv (.tmp 8)), none⟩]
def x52_2 : XCode := .seq (.region x52_1) .ret
def x52_3 : XCode := .seq (.region x52_0) x52_2
def x52 : XCode := x52_3
theorem fx52 : fnx Try.prog 52 = some (9, [(2, none)], x52) := by kernel_rfl
def x53_0 : List XOper := [⟨(some 4), .op (.mv (.const (.bool false))), none⟩]
def x53_1 : List XOper := [⟨(some 8), .op (.mv (.tmp 0)), none⟩,
  ⟨(some 9), .callF 71 [(.tmp 8)], none⟩,
  ⟨(some 7), .op (.mv (.tmp 9)), none⟩,
  ⟨(some 10), .op (.ext (.tmp 7) 0), none⟩,
  ⟨(some 11), .op (.ext (.tmp 7) 1), none⟩,
  ⟨(some 5), .op (.mv (.tmp 10)), none⟩,
  ⟨(some 6), .op (.mv (.tmp 11)), none⟩]
def x53_2 : List XOper := [⟨(some 12), .op (.mv (.tmp 1)), none⟩,
  ⟨(some 13), .op (.mv (.tmp 5)), none⟩,
  ⟨(some 14), .op (.bin .geq (.tmp 12) (.tmp 13)), none⟩,
  ⟨(some 15), .op (.mv (.tmp 14)), none⟩,
  ⟨(some 16), .op (.mv (.tmp 1)), (some (15, true))⟩,
  ⟨(some 17), .op (.mv (.tmp 6)), (some (15, true))⟩,
  ⟨(some 18), .op (.bin .leq (.tmp 16) (.tmp 17)), (some (15, true))⟩,
  ⟨(some 19), .pick (.tmp 15) (.tmp 18) (.const (.bool false)), none⟩,
  ⟨(some 4), .op (.mv (.tmp 19)), none⟩]
def x53_3 : XCode := .seq (.region x53_2) .ret
def x53_4 : XCode := .seq (.region x53_1) x53_3
def x53_5 : XCode := .seq (.region x53_0) x53_4
def x53 : XCode := x53_5
theorem fx53 : fnx Try.prog 53 = some (20, [(4, none)], x53) := by kernel_rfl
def x54_0 : List XOper := [⟨(some 2), .op (.mv (.const (.int .i64 0))), none⟩]
def x54_1 : List XOper := [⟨(some 3), .op (.mv (.tmp 0)), none⟩,
  ⟨(some 4), .op (.mv (.tmp 0)), none⟩,
  ⟨(some 5), .callF 55 [(.tmp 4)], none⟩,
  ⟨(some 6), .op (.bin .sub (.tmp 3) (.tmp 5)), none⟩,
  ⟨(some 7), .op (.bin .shr (.tmp 6) (.const (.int .u64 12))), none⟩,
  ⟨(some 2), .op (.mv (.tmp 7)), none⟩]
def x54_2 : XCode := .seq (.region x54_1) .ret
def x54_3 : XCode := .seq (.region x54_0) x54_2
def x54 : XCode := x54_3
theorem fx54 : fnx Try.prog 54 = some (8, [(2, none)], x54) := by kernel_rfl
def x55_0 : List XOper := [⟨(some 2), .op (.mv (.const (.int .i64 0))), none⟩]
def x55_1 : List XOper := [⟨(some 3), .op (.mv (.tmp 0)), none⟩,
  ⟨(some 4), .op (.bin .and (.tmp 3) (.const (.int .i64 4095))), none⟩,
  ⟨(some 5), .op (.bin .xor (.tmp 4) (.const (.int .i64 2048))), none⟩,
  ⟨(some 6), .op (.bin .sub (.tmp 5) (.const (.int .i64 2048))), none⟩,
  ⟨(some 2), .op (.mv (.tmp 6)), none⟩]
def x55_2 : XCode := .seq (.region x55_1) .ret
def x55_3 : XCode := .seq (.region x55_0) x55_2
def x55 : XCode := x55_3
theorem fx55 : fnx Try.prog 55 = some (7, [(2, none)], x55) := by kernel_rfl
def x56_0 : List XOper := [⟨(some 2), .op (.mv (.const (.int .i64 0))), none⟩]
def x56_1 : List XOper := [⟨(some 3), .op (.mv (.tmp 0)), none⟩,
  ⟨(some 4), .op (.bin .sub (.tmp 3) (.const (.int .i64 45))), none⟩,
  ⟨(some 5), .op (.bin .xor (.tmp 4) (.const (.int .i64 1))), none⟩,
  ⟨(some 6), .op (.bin .add (.tmp 5) (.const (.int .i64 45))), none⟩,
  ⟨(some 2), .op (.mv (.tmp 6)), none⟩]
def x56_2 : XCode := .seq (.region x56_1) .ret
def x56_3 : XCode := .seq (.region x56_0) x56_2
def x56 : XCode := x56_3
theorem fx56 : fnx Try.prog 56 = some (7, [(2, none)], x56) := by kernel_rfl
def x57_0 : List XOper := [⟨(some 9), .op (.mv (.tmp 2)), none⟩,
  ⟨(some 10), .op (.lenS (.tmp 9)), none⟩,
  ⟨(some 11), .op (.mv (.const (.int .i64 0))), none⟩]
def x57_1 : List XOper := [⟨(some 12), .op (.bin .lss (.tmp 11) (.tmp 10)), none⟩]
def x57_2 : XCode := .cnd (.tmp 12) .skip (.exit 0)
def x57_3 : List XOper := [⟨(some 13), .op (.iaddrS 3 (.tmp 9) (.tmp 11)), none⟩,
  ⟨(some 14), .op (.load .agg 3 (.tmp 13)), none⟩,
  ⟨(some 8), .op (.new [(.int .u32 0), (.int .u32 0), (.int .u32 0)]), none⟩,
  ⟨none, .op (.store 3 (.tmp 8) (.tmp 14)), none⟩]
def x57_4 : List XOper := [⟨(some 15), .op (.load .one 1 (.tmp 3)), none⟩,
  ⟨(some 16), .op (.iaddrA false 3 1 (.tmp 8) (.const (.int .i64 0))), none⟩,
  ⟨(some 17), .op (.load (.int .u32) 1 (.tmp 16)), none⟩,
  ⟨(some 18), .op (.conv .i64 (.tmp 17)), none⟩,
  ⟨(some 19), .op (.mv (.tmp 0)), none⟩,
  ⟨(some 20), .op (.mv (.tmp 1)), none⟩,
  ⟨(some 21), .op (.iaddrA false 3 1 (.tmp 8) (.const (.int .i64 1))), none⟩,
  ⟨(some 22), .op (.load (.int .u32) 1 (.tmp 21)), none⟩,
  ⟨(some 23), .op (.iaddrA false 3 1 (.tmp 8) (.const (.int .i64 2))), none⟩,
  ⟨(some 24), .op (.load (.int .u32) 1 (.tmp 23)), none⟩,
  ⟨(some 25), .op (.build [(.int .u32 0), (.int .u32 0), (.int .u32 0)] [(0, 1, (.tmp 20)), (1, 1, (.tmp 22)), (2, 1, (.tmp 24))]), none⟩,
  ⟨(some 26), .op (.build [(.int .u8 0), (.int .u32 0), (.int .u32 0), (.int .u32 0)] [(0, 1, (.tmp 19)), (1, 3, (.tmp 25))]), none⟩,
  ⟨none, .op (.mapupd 3 104 (.int .i64) (.tmp 15) (.tmp 18) (.tmp 26)), none⟩]
def x57_5 : XCode := .seq (.region x57_3) (.region x57_4)
def x57_6 : XCode := .block 1 x57_5
def x57_7 : List XOper := [⟨(some 27), .op (.bin .add (.tmp 11) (.const (.int .i64 1))), none⟩,
  ⟨(some 11), .op (.mv (.tmp 27)), none⟩]
def x57_8 : XCode := .seq x57_6 (.region x57_7)
def x57_9 : XCode := .seq x57_2 x57_8
def x57_10 : XCode := .seq (.region x57_1) x57_9
def x57_11 : XCode := .loop x57_10
def x57_12 : XCode := .block 0 x57_11
def x57_13 : XCode := .seq (.region x57_0) x57_12
def x57 : XCode := x57_13
theorem fx57 : fnx Try.prog 57 = some (28, [], x57) := by kernel_rfl
def x71_0 : List XOper := [⟨(some 2), .op (.mv (.const (.int .i64 0))), none⟩,
  ⟨(some 3), .op (.mv (.const (.int .i64 0))), none⟩]
def x71_1 : List XOper := [⟨(some 4), .callF 43 [], none⟩,
  ⟨(some 5), .op (.mv (.tmp 0)), none⟩,
  ⟨(some 6), .op (.lookup 3 104 (.int .i64) (.agg #[(.int .u8 0), (.int .u32 0), (.int .u32 0), (.int .u32 0)]) false (.tmp 4) (.tmp 5)), none⟩,
  ⟨(some 7), .op (.field (.int .u8) 0 1 (.tmp 6)), none⟩,
  ⟨(some 8), .callF 44 [(.tmp 7)], none⟩,
  ⟨(some 9), .op (.ext (.tmp 8) 0), none⟩,
  ⟨(some 10), .op (.ext (.tmp 8) 1), none⟩,
  ⟨(some 2), .op (.mv (.tmp 9)), none⟩,
  ⟨(some 3), .op (.mv (.tmp 10)), none⟩]
def x71_2 : XCode := .seq (.region x71_1) .ret
def x71_3 : XCode := .seq (.region x71_0) x71_2
def x71 : XCode := x71_3
theorem fx71 : fnx Try.prog 71 = some (11, [(2, none), (3, none)], x71) := by kernel_rfl
end Go.X
